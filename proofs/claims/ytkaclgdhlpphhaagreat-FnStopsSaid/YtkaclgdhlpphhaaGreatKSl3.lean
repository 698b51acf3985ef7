/-
  Texts of a proof, one behind another: DwP, DwQ, DwR, Data, DwT, Br, OpensU, Dw1, Dw2, Num, NumB, Dw3, Dw4, Dw5, Flt, FltD, Dw6, Dw7, Dw8, Z, Dw9, Dw10, Dw11, Dw12, Dw13, Dw16, Dw18, Dw21, Dw14, Dw15, Cn, CnO, Dw22, Dw17, Dw28.
-/
import Derived.Test.YtkaclgdhlpphhaaGreatProg
import Derived.Test.YtkaclgdhlpphhaaGreatRows
import Derived.Laws.FloatArith
import Derived.Test.YtkaclgdhlpphhaaGreatKSl2
set_option linter.all false
set_option maxRecDepth 100000
set_option maxHeartbeats 1000000
open Go.Proofs.Tryz
open Nat (le_refl zero_le le_trans gcd mul_le_mul_right add_zero mul_comm lt_of_lt_of_le mul_assoc zero_add add_mul mod_lt pow_add div_eq_of_lt lt_or_ge pos_of_ne_zero mod_eq_of_lt min_eq_left div_one le_of_lt mul_add lt_of_le_of_lt two_pow_pos mul_right_comm one_mul mod_one mul_le_mul_left div_le_self zero_mul div_lt_iff_lt_mul lt_succ_self eq_zero_or_pos strongRecOn pow_le_pow_right mul_left_comm mul_pos mod_add_div)
open List (replicate mem_cons mem_cons_self length_append length_take getElem?_take mem_map length_cons getElem_mem any_eq_false map_cons any_eq_true length)
open Int (toNat_natCast mul_nonneg natCast_mul)
open Bool (false_eq_true)
open Rat (mkRat_self)
open Option (map_some getD_some)
open Prod (snd)
noncomputable section
namespace Go.Proofs.YtkaclgdhlpphhaaGreat
namespace DW
open Go.RowKit
def ZS (B:Option ay) (p:Prop):Prop:=match B with
 | some (.row ..)=>p
 | _=>True
section
variable (σm τm:Nat->Option ay) (ρ:Nat->Nat) (ba:List Nat)
def mW (u v:AV):Prop :=
 match v with
 | .sc x=>u=.sc x
 | .sl t l=>(u.data σm=some ⟨t,l⟩/\∀k ∈ u.rows,ZS (σm k) (k ∉ ba))\/(u=.sc (.slice none 0 0)/\l=[])
 | .row k ver =>
  match τm k,u with
  | some (.row _ _ v _ _),.row k0 ver0=>k0=ρ k/\v=ver/\(match σm k0 with|some (.row _ _ v0 _ _)=>v0=ver0|_=>False)
  | some (.cU _ _),.row k0 ver0=>k0=ρ k/\ver=0/\ver0=0
  | some (.cu _ _),.row k0 ver0=>k0=ρ k/\ver=0/\ver0=0
  | some (.ob _ v _),.row k0 ver0=>k0=ρ k/\v=ver/\(match σm k0 with|some (.ob _ v0 _)=>v0=ver0|some (.row _ _ v0 _ _)=>v0=ver0|_=>False)
  | some (.bx _ _),.row k0 ver0=>k0=ρ k/\ver=ver0
  | _,_=>False
 | .ptr k off=>u=.ptr (ρ k) off/\∃x cs,τm k=some (.bx x cs)
 | .ref t x off=>u=.ref t x off/\ba=ba
 | .ex e t x=>u=.ex e t x/\ba=ba
 | .fx v t l=>u=.fx v t l/\ba=ba
 | .iQ f ks =>
  match u with
  | .iQ f0 ks0=>f0=f/\aA (fun k0 k=>k0=ρ k/\∃x cs,τm k=some (.bx x cs)) ks0 ks
  | _=>False
 | _=>False
def Ly (u v:AV):Prop :=
 match v with
 | .agg cs=>match u with
  | .agg cs0=>aA (mW σm τm ρ ba) cs0 cs
  | _=>False
 | v=>mW σm τm ρ ba u v
def PY (u v:AV):Prop :=
 match v with
 | .ke=>True
 | .dY vs=>match u with
  | .dY us=>aA (Ly σm τm ρ ba) us vs
  | _=>False
 | v=>Ly σm τm ρ ba u v
def NS (σ:Tm):Tm->Prop
 | []=>True
 | (d,v) :: l=>(match look σ d with|some u=>PY σm τm ρ ba u v|none=>False)/\NS σ l
def iS (k:Nat) (B:ay):Prop :=
 match B with
 | .row e t _ o l=>match σm (ρ k) with
  | some (.row e0 t0 _ o0 l0)=>e0=e/\(⟨t0,l0⟩:sF)=⟨t,l⟩/\(o=true->o0=true)
  | _=>False
 | .cU t l=>match σm (ρ k) with
  | some (.cU t0 l0)=>(⟨t0,l0⟩:sF)=⟨t,l⟩
  | _=>False
 | .cu t l=>match σm (ρ k) with
  | some (.cu t0 l0)=>(⟨t0,l0⟩:sF)=⟨t,l⟩
  | _=>False
 | .bx x cs=>match σm (ρ k) with
  | some (.bx x0 cs0)=>x0=x/\aA (mW σm τm ρ ba) cs0 cs
  | _=>False
 | .ob x _ d=>match σm (ρ k) with
  | some (.ob x0 _ d0)=>x0=x/\d0=d
  | some (.row e0 t0 _ _ l0)=>x=none/\d=.je e0 t0 l0/\t0.flat=true/\l0 ≠ []
  | _=>False
 | _=>False
def sy:Mm->Prop
 | []=>True
 | (k,B) :: l=>iS σm τm ρ ba k B/\sy l
end
def iA (L:List (Nat × Nat)) (k:Nat):Nat:=(look L k).getD k
def Wk0 (σ τ:St):Prop :=
 ∃L:List (Nat × Nat),((τ.mem.map fun p=>iA L p.1).Nodup)/\NS (look σ.mem) (look τ.mem) (iA L) (τ.mem.map fun p=>iA L p.1) σ.tmps τ.tmps/\sy (look σ.mem) (look τ.mem) (iA L) (τ.mem.map fun p=>iA L p.1) τ.mem
inductive qH:St->St->Prop where
 | refl (σ:St):qH σ σ
 | box {σ τ:St} (k j n:Nat) (e:TypeId) (t:Ty) {x:Option Nat} {cs:List AV} (h1:look σ.mem k=some (.bx x cs)) (h2:cs[j]? = some (.sc (.slice none 0 0))) (h3:look σ.mem n=none) (h:qH ⟨σ.tmps,(k,.bx x (cs.set j (.row n 0))) :: (n,.row e t 0 true []) :: σ.mem⟩ τ):qH σ τ
 | conv {σ σ1 τ:St} (h0:∀{c:Cx} {Γ:aC} {a:Act} {w:World},aH c σ Γ a w->∃ Γ',aH c σ1 Γ' a w) (h:qH σ1 τ):qH σ τ
 | slot {σ τ:St} (d n:Nat) (e:TypeId) (t:Ty) (h1:look σ.tmps d=some (.sc (.slice none 0 0))) (h3:look σ.mem n=none) (h:qH ⟨(d,.row n 0) :: σ.tmps,(n,.row e t 0 true []) :: σ.mem⟩ τ):qH σ τ
def Wk (σ τ:St):Prop:=∃ σ',qH σ σ'/\Wk0 σ' τ
section
variable {c:Cx} {σ τ:St} {Γ:aC} {a:Act} {w:World} {ρ:Nat->Nat} {ba:List Nat}
def aC.iA (Γ:aC) (ρ:Nat->Nat):aC:=⟨fun k=>Γ.β (ρ k),fun k=>Γ.hd (ρ k),fun k=>Γ.fp (ρ k)⟩
theorem il {σm τm:Nat->Option ay}:∀{M:Mm} {k:Nat} {B:ay},sy σm τm ρ ba M->look M k=some B->iS σm τm ρ ba k B
 | [],_,_,_,h=>by cases h
 | (j,C) :: M,k,B,⟨h1,h2⟩,h=>by
  simp only[look] at h
  split at h
  ·rename_i e; injection h with h; subst h e; exact h1
  ·exact il h2 h
theorem ND {σm τm:Nat->Option ay} {σt:Tm}:∀{M:Tm} {k:Nat} {v:AV},NS σm τm ρ ba σt M->look M k=some v->∃u,look σt k=some u/\PY σm τm ρ ba u v
 | [],_,_,_,h=>by cases h
 | (j,C) :: M,k,v,⟨h1,h2⟩,h=>by
  simp only[look] at h
  split at h
  ·rename_i e; injection h with h; subst h e
   split at h1
   ·rename_i u hu; exact⟨u,hu,h1⟩
   ·exact h1.elim
  ·exact ND h2 h
theorem Ch {B:ay} {k b:Nat} (hB:iS (look σ.mem) (look τ.mem) ρ ba k B) (hm:B.mut (Γ.iA ρ) k b):∃B0,look σ.mem (ρ k)=some B0/\B0.mut Γ (ρ k) b:=by
 unfold iS at hB
 split at hB
 ·split at hB
  ·rename_i h0; exact⟨_,h0,hm⟩
  ·exact hB.elim
 ·exact hm.elim
 ·split at hB
  ·rename_i h0; exact⟨_,h0,hm⟩
  ·exact hB.elim
 ·split at hB
  ·rename_i h0; obtain⟨rfl,_⟩:=hB; exact⟨_,h0,hm⟩
  ·exact hB.elim
 ·split at hB
  ·rename_i h0; obtain⟨rfl,rfl⟩:=hB; exact⟨_,h0,hm⟩
  ·rename_i h0
   obtain⟨rfl,rfl,_⟩:=hB
   exact⟨_,h0,hm⟩
  ·exact hB.elim
 ·exact hB.elim
theorem sO (hM:sy (look σ.mem) (look τ.mem) ρ ba τ.mem) {b:Nat} (hg:Gd c σ.mem Γ b):Gd c τ.mem (Γ.iA ρ) b :=
 ⟨hg.1,fun⟨k,B,hk,hm⟩=>by
  obtain⟨B0,h1,h2⟩:=Ch (il hM hk) hm
  exact hg.2 ⟨_,B0,h1,h2⟩⟩
theorem aA.Jh {α β γ:Type} {R:α->γ->Prop} {Q:α->β->Prop} {R':β->γ->Prop}:∀{l:List α} {m:List β} {n:List γ},(∀a b x,R a x->Q a b->R' b x)->aA R l n->aA Q l m->aA R' m n
 | [],[],[],_,_,_=>trivial
 | _ :: _,_ :: _,_ :: _,h,⟨h1,h2⟩,⟨h3,h4⟩=>⟨h _ _ _ h1 h3,aA.Jh h h2 h4⟩
 | [],_ :: _,_,_,_,h=>h.elim
 | _ :: _,[],_,_,_,h=>h.elim
 | [],[],_ :: _,_,h,_=>h.elim
 | _ :: _,_ :: _,[],_,h,_=>h.elim
theorem Y4 (hs:aH c σ Γ a w) (hrng:ba=τ.mem.map fun p=>ρ p.1) (hM:sy (look σ.mem) (look τ.mem) ρ ba τ.mem) {u v:AV} {x:Value} (hu:aQ c σ.mem Γ w u x) (hle:mW (look σ.mem) (look τ.mem) ρ ba u v):aQ c τ.mem (Γ.iA ρ) w v x:=by
 cases v with
 | sc y=>obtain rfl:u=.sc y:=hle; exact hu
 | sl t l =>
  rcases hle with ⟨hd,hr⟩|⟨rfl,rfl⟩
  ·by_cases hrow:∃k ver e v' o' l',u=.row k ver/\look σ.mem k=some (.row e t v' o' l')
   ·obtain⟨k,ver,e,v',o',l',rfl,hk⟩:=hrow
    have hd':=hd
    simp only[AV.data,hk,Option.bind_some,ay.data] at hd'
    split at hd'
    ·rename_i hvv
     injection hd' with hd'; injection hd' with _ d2
     obtain rfl:=d2
     obtain⟨fps,hg,hf,hgd,_⟩:=hs.mm k _ hk
     obtain⟨_,B,hB,hbh⟩:=hu
     rw[hk] at hB; injection hB with hB; subst hB
     rw[hbh.2 hvv]
     obtain⟨fp,hrep,hfp⟩:=sE hg
     refine⟨fp,hrep,fun b hb=>?_⟩
     rcases hfp with rfl|⟨g,hgo,rfl,hbg,_⟩
     ·cases hb
     ·rcases mem_cons.1 hb with rfl|hb
      ·refine⟨hbg.gd,fun⟨j,B,hj,hm⟩=>?_⟩
       obtain⟨B0,h1,h2⟩:=Ch (il hM hj) hm
       have:=hs.inj _ _ _ _ b h1 hk h2 hgo
       have hr1:=hr k (by simp[AV.rows])
       rw[hk] at hr1
       refine hr1 ?_
       rw[hrng,<-this]
       obtain⟨q,hq,e⟩:=fM hj
       exact mem_map.2 ⟨q,hq,by rw[e]⟩
      ·exact sO hM (hgd b (hf ▸ hb))
    ·cases hd'
   ·obtain⟨fp,hrep,_,hg⟩:=hs.rK hu hd
    refine⟨fp,hrep,fun b hb=>sO hM (hg (fun k ver e e' t' v' o' l' hk=>?_) b hb)⟩
    subst e
    have hd2:=hd
    simp only[AV.data,hk,Option.bind_some,ay.data] at hd2
    split at hd2
    ·injection hd2 with hd2; injection hd2 with d1 d2
     subst d1
     exact hrow ⟨k,ver,e',v',o',l',rfl,hk⟩
    ·cases hd2
  ·obtain⟨rfl,_⟩:=hu
   exact⟨[],⟨none,0,rfl,le_refl _,zero_le _,.inl ⟨rfl,rfl⟩⟩,fun b hb=>by cases hb⟩
 | row k ver =>
  unfold mW at hle
  simp only at hle
  split at hle
  ·rename_i e t v' o l k0 ver0 hk
   obtain⟨rfl,rfl,hle⟩:=hle
   split at hle
   ·rename_i e0 t0 v0 o0 l0 hk0
    subst hle
    obtain⟨h1,B,hB,hh⟩:=hu
    rw[hk0] at hB; injection hB with hB; subst hB
    exact⟨h1,_,hk,le_refl _,fun _=>hh.2 rfl⟩
   ·exact hle.elim
  ·rename_i t l k0 ver0 hk
   obtain⟨rfl,rfl,rfl⟩:=hle
   have hwb:=il hM hk
   simp only[iS] at hwb
   split at hwb
   ·rename_i t0 l0 hk0
    obtain⟨h1,B,hB,hh⟩:=hu
    rw[hk0] at hB; injection hB with hB; subst hB
    exact⟨h1,_,hk,fun _=>hh rfl⟩
   ·exact hwb.elim
  ·rename_i t l k0 ver0 hk
   obtain⟨rfl,rfl,rfl⟩:=hle
   have hwb:=il hM hk
   simp only[iS] at hwb
   split at hwb
   ·rename_i t0 l0 hk0
    obtain⟨h1,B,hB,hh⟩:=hu
    rw[hk0] at hB; injection hB with hB; subst hB
    exact⟨h1,_,hk,fun _=>hh rfl⟩
   ·exact hwb.elim
  ·rename_i xo v' d k0 ver0 hk
   obtain⟨rfl,rfl,hle⟩:=hle
   have hwb:=il hM hk
   obtain⟨h1,B,hB,hh⟩:=hu
   split at hle
   ·rename_i x0 v0 d0 hk0
    subst hle
    rw[hk0] at hB; injection hB with hB; subst hB
    simp only[iS,hk0] at hwb
    obtain⟨rfl,_⟩:=hwb
    exact⟨h1,_,hk,le_refl _,fun _=>hh.2 rfl⟩
   ·rename_i e0 t0 v0 o0 l0 hk0
    subst hle
    rw[hk0] at hB; injection hB with hB; subst hB
    simp only[iS,hk0] at hwb
    obtain⟨rfl,_⟩:=hwb
    exact⟨h1,_,hk,le_refl _,fun _=>hh.2 rfl⟩
   ·exact hle.elim
  ·rename_i xo cs k0 ver0 hk
   obtain⟨rfl,rfl⟩:=hle
   have hwb:=il hM hk
   obtain⟨h1,B,hB,hh⟩:=hu
   simp only[iS,hB] at hwb
   cases B with
   | bx x0 cs0 =>
    obtain⟨rfl,_⟩:=hwb
    exact⟨h1,_,hk,hh⟩
   | _=>exact hwb.elim
  ·exact hle.elim
 | ptr k off =>
  obtain⟨rfl,xo,cs,hk⟩:=hle
  obtain⟨xo',cs',hq,rfl⟩:=hu
  have hwb:=il hM hk
  simp only[iS,hq] at hwb
  obtain⟨rfl,_⟩:=hwb
  exact⟨_,cs,hk,rfl⟩
 | fx y t l =>
  obtain⟨rfl,_⟩:=hle
  obtain⟨e,fp,hr,hg⟩:=hu
  exact⟨e,fp,hr,fun b hb=>sO hM (hg b hb)⟩
 | ex e t y =>
  obtain⟨rfl,_⟩:=hle
  obtain⟨fp,hr,hg⟩:=hu
  exact⟨fp,hr,fun b hb=>sO hM (hg b hb)⟩
 | ref t y off =>
  obtain⟨rfl,_⟩:=hle
  obtain⟨b,o,cs,fp,rfl,hr,hc,hgb,hg,hl⟩:=hu
  exact⟨b,o,cs,fp,rfl,hr,hc,sO hM hgb,fun b' hb'=>sO hM (hg b' hb'),hl⟩
 | iQ f ks =>
  cases u with
  | iQ f0 ks0 =>
   obtain⟨rfl,hall⟩:=hle
   obtain⟨us,rfl,hus⟩:=hu
   refine⟨us,rfl,aA.Jh (fun k0 k p hR hQ=>?_) hus hall⟩
   obtain⟨rfl,xo,cs,hk⟩:=hQ
   obtain⟨xo',cs',hq,rfl⟩:=hR
   have hwb:=il hM hk
   simp only[iS,hq] at hwb
   obtain⟨rfl,_⟩:=hwb
   exact⟨_,cs,hk,rfl⟩
  | _=>exact hle.elim
 | _=>exact hle.elim
def AV.JB:AV->Bool
 | .ke|.agg _|.dY _=>false
 | _=>true
theorem JL {σm τm:Nat->Option ay} {u v:AV} (h:mW σm τm ρ ba u v):u.JB=true:=by
 cases v with
 | sc x=>obtain rfl:u=.sc x:=h; rfl
 | sl t l =>
  rcases h with ⟨h,_⟩|⟨rfl,_⟩
  ·cases u<;>first|rfl|cases h
  ·rfl
 | row k ver =>
  unfold mW at h
  simp only at h
  split at h
  ·rfl
  ·rfl
  ·rfl
  ·rfl
  ·rfl
  ·exact h.elim
 | ptr k off=>obtain⟨rfl,_⟩:=h; rfl
 | ref t x off=>obtain⟨rfl,_⟩:=h; rfl
 | ex e t x=>obtain⟨rfl,_⟩:=h; rfl
 | fx v t l=>obtain⟨rfl,_⟩:=h; rfl
 | iQ f ks =>
  cases u with
  | iQ f0 ks0=>rfl
  | _=>exact h.elim
 | _=>exact h.elim
theorem Q5 {M:Mm} {u:AV} {x:Value} (h:bq c M Γ w u x) (hc:u.JB=true):aQ c M Γ w u x:=by
 cases u<;>first|exact h|cases hc
theorem P9 {M:Mm} {u:AV} {x:Value} (h:aR c M Γ w u x) (hc:u.JB=true):aQ c M Γ w u x:=by
 cases u<;>first|exact h|cases hc
theorem w7 {α β:Type} {f:α->β}:∀{l:List α},(l.map f).Nodup->∀{x y:α},x ∈ l->y ∈ l->f x=f y->x=y
 | [],_,_,_,h,_,_=>by cases h
 | z :: l,hn,x,y,hx,hy,e=>by
  rw[map_cons,List.nodup_cons] at hn
  rcases mem_cons.1 hx with e1|h1<;>rcases mem_cons.1 hy with e2|h2
  ·rw[e1,e2]
  ·exact (hn.1 (mem_map.2 ⟨y,h2,by rw[<-e,e1]⟩)).elim
  ·exact (hn.1 (mem_map.2 ⟨x,h1,by rw[e,e2]⟩)).elim
  ·exact w7 hn.2 h1 h2 e
theorem Rs {B:ay} {k b:Nat} (hB:iS (look σ.mem) (look τ.mem) ρ ba k B) (hm:b ∈ B.bY (Γ.iA ρ) k):∃B0,look σ.mem (ρ k)=some B0/\b ∈ B0.bY Γ (ρ k):=by
 unfold iS at hB
 split at hB
 ·rename_i e t v o l
  split at hB
  ·rename_i h0
   cases o with
   | false=>simp[ay.bY] at hm
   | true=>exact⟨_,h0,by rw[hB.2.2 rfl]; exact hm⟩
  ·exact hB.elim
 ·split at hB
  ·rename_i h0; exact⟨_,h0,hm⟩
  ·exact hB.elim
 ·simp[ay.bY] at hm
 ·simp[ay.bY] at hm
 ·simp[ay.bY] at hm
 ·exact hB.elim
theorem ZT {c:Cx} {w:World} {e:TypeId} {t:Ty} {v:Value} {l:List t.den} {fps:List (List Nat)} (hg:jm c t w e v l fps) (hf:t.flat=true) (hne:l ≠ []):∃b o,lJ (.je e t l) v=some b/\Ho c none b/\w.heap[b]? = some o/\(Ah.je e t l).I v o:=by
 obtain⟨⟨xs,ho,hl,he⟩,hR⟩:=hg
 rcases ho.2 with ⟨_,h0⟩|⟨g,cap,cur,rfl,hb,hgg,h1,h2,h3,h4⟩
 ·exact absurd (List.eq_nil_of_length_eq_zero h0) hne
 ·refine⟨g,_,rfl,hR g rfl,hgg,g,0,cap,cur,rfl,rfl,h1,h2,J,fun w' i x hx=>?_⟩
  obtain⟨f,cs,_,hr,hc⟩:=he i x hx
  have h5:=fL hf hr
  subst h5
  refine⟨cs,t.rp.frame hr (fun b hb=>by cases hb),fun j u hj=>?_⟩
  have:=hc j u hj
  rw[<-h4,getElem?_take] at this
  split at this
  ·rw[zero_add]; exact this
  ·cases this
theorem XO (hs:aH c σ Γ a w) (h:Wk0 σ τ):∃ Γ',aH c τ Γ' a w:=by
 obtain⟨L,hnd,hT,hM⟩:=h
 generalize hrng:(τ.mem.map fun p=>iA L p.1)=ba at hnd hT hM
 have hrng':=hrng.symm
 have hcr:∀(u v:AV) (x:Value),aQ c σ.mem Γ w u x->mW (look σ.mem) (look τ.mem) (iA L) ba u v->aQ c τ.mem (Γ.iA (iA L)) w v x:=fun _ _ _ h1 h2=>Y4 hs hrng' hM h1 h2
 have har:∀(u v:AV) (x:Value),bq c σ.mem Γ w u x->Ly (look σ.mem) (look τ.mem) (iA L) ba u v->bq c τ.mem (Γ.iA (iA L)) w v x:=by
  intro u v x h1 h2
  cases v with
  | agg cs =>
   cases u with
   | agg cs0=>obtain⟨us,rfl,h1⟩:=h1; exact⟨us,rfl,aA.Jh hcr h1 h2⟩
   | _=>exact h2.elim
  | _ =>
   simp only[Ly] at h2
   have h3:=hcr _ _ x (Q5 h1 (JL h2)) h2
   simp only[bq]; exact h3
 have hvr:∀(u v:AV) (x:Value),aR c σ.mem Γ w u x->PY (look σ.mem) (look τ.mem) (iA L) ba u v->aR c τ.mem (Γ.iA (iA L)) w v x:=by
  intro u v x h1 h2
  cases v with
  | ke=>trivial
  | dY vs =>
   cases u with
   | dY us0=>obtain⟨us,rfl,h1⟩:=h1; exact⟨us,rfl,aA.Jh har h1 h2⟩
   | _=>exact h2.elim
  | agg cs =>
   cases u with
   | agg cs0=>exact har (.agg cs0) (.agg cs) x h1 h2
   | _=>exact h2.elim
  | _ =>
   simp only[PY,Ly] at h2
   have h3:=hcr _ _ x (P9 h1 (JL h2)) h2
   simp only[aR,bq]; exact h3
 refine⟨Γ.iA (iA L),fun d v hd=>?_,fun k B hk=>?_,fun k k' B B' b hk hk' hb hb'=>?_,fun k k' B B' b hk hk' hne hb hb'=>?_,hs.below,hs.hb,hs.defs,hs.sz⟩
 ·obtain⟨u,h1,h2⟩:=ND hT hd
  obtain⟨x,h3,h4⟩:=hs.tm d u h1
  exact⟨x,h3,hvr _ _ _ h4 h2⟩
 ·have hwb:=il hM hk
  cases B with
  | bx xo cs =>
   simp only[iS] at hwb
   split at hwb
   ·rename_i x0 cs0 hk0
    obtain⟨rfl,hwb⟩:=hwb
    obtain⟨e1,us,e,e2,e3⟩:=hs.mm _ _ hk0
    exact⟨e1,us,e,e2,aA.Jh hcr e3 hwb⟩
   ·exact hwb.elim
  | row e t v o l =>
   simp only[iS] at hwb
   split at hwb
   ·rename_i e0 t0 v0 o0 l0 hk0
    obtain⟨rfl,hdd,ho⟩:=hwb
    injection hdd with d1 d2
    subst d1
    obtain rfl:=eq_of_heq d2
    obtain⟨fps,e1,e2,e3,e4⟩:=hs.mm _ _ hk0
    exact⟨fps,e1,e2,fun b hb=>sO hM (e3 b hb),fun h=>e4 (ho h)⟩
   ·exact hwb.elim
  | cU t l =>
   simp only[iS] at hwb
   split at hwb
   ·rename_i t0 l0 hk0
    injection hwb with d1 d2
    subst d1
    obtain rfl:=eq_of_heq d2
    obtain⟨e1,e2,e3⟩:=hs.mm _ _ hk0
    exact⟨e1,fun b hb=>sO hM (e2 b hb),e3⟩
   ·exact hwb.elim
  | cu t l =>
   simp only[iS] at hwb
   split at hwb
   ·rename_i t0 l0 hk0
    injection hwb with d1 d2
    subst d1
    obtain rfl:=eq_of_heq d2
    exact hs.mm _ _ hk0
   ·exact hwb.elim
  | ob x v d =>
   simp only[iS] at hwb
   split at hwb
   ·rename_i x0 v0 d0 hk0
    obtain⟨rfl,rfl⟩:=hwb
    exact hs.mm _ _ hk0
   ·rename_i e0 t0 v0 o0 l0 hk0
    obtain⟨rfl,rfl,hfl,hne⟩:=hwb
    obtain⟨fps,hg,_⟩:=hs.mm _ _ hk0
    exact ZT hg hfl hne
   ·exact hwb.elim
  | _=>exact hwb.elim
 ·obtain⟨B0,h1,h2⟩:=Ch (il hM hk) hb
  obtain⟨B1,h3,h4⟩:=Ch (il hM hk') hb'
  have:=hs.inj _ _ _ _ b h1 h3 h2 h4
  obtain⟨q,hq,e⟩:=fM hk
  obtain⟨q',hq',e'⟩:=fM hk'
  rw[<-hrng] at hnd
  have:=w7 hnd hq hq' (by rw[e,e']; exact this)
  rw[<-e,<-e',this]
 ·obtain⟨B0,h1,h2⟩:=Rs (il hM hk) hb
  obtain⟨B1,h3,h4⟩:=Rs (il hM hk') hb'
  refine hs.pX _ _ _ _ b h1 h3 (fun he=>hne ?_) h2 h4
  obtain⟨q,hq,e⟩:=fM hk
  obtain⟨q',hq',e'⟩:=fM hk'
  rw[<-hrng] at hnd
  have:=w7 hnd hq hq' (by rw[e,e']; exact he)
  rw[<-e,<-e',this]
theorem aH.abi (h:aH c σ Γ a w) {k:Nat} {x:Option Nat} {cs cs2:List AV} (hk:look σ.mem k=some (.bx x cs)) (hc:∀us,aA (aQ c σ.mem Γ w) cs us->aA (aQ c σ.mem Γ w) cs2 us):aH c ⟨σ.tmps,(k,.bx x cs2) :: σ.mem⟩ Γ a w:=by
 obtain⟨hb,us,e,hg,hcur⟩:=h.mm k _ hk
 refine h.yf (k:=k) (B':=.bx x cs2) (Γ':=Γ) (w':=w) ⟨fun j _=>⟨rfl,rfl,rfl⟩,rfl,rfl,rfl,le_refl _,fun _ _ _=>rfl,fun b hb=>.inr ⟨_,hk,hb⟩,fun b hb=>by simp[ay.bY] at hb⟩ ?_ ?_ ?_ ?_
 ·rintro ver u ⟨_,B,hB,hh⟩; rw[hk] at hB; injection hB with hB; subst hB; exact hh
 ·rintro ver i off u ⟨h1,B,hB,_⟩; exact⟨h1,_,aD ..,fun e t v o l hh=>by cases hh⟩
 ·intro x2 cs2 h2
  rw[hk] at h2
  injection h2 with h2
  injection h2 with h3 h4
  subst h3
  exact⟨⟨_,rfl⟩,rfl⟩
 ·intro hcr
  exact⟨hb,us,e,hg,(hc _ hcur).mono fun v u _=>hcr v u⟩
theorem aH.Re (h:aH c σ Γ a w) {n:Nat} (hn:look σ.mem n=none) (e:TypeId) (t:Ty):aH c ⟨σ.tmps,(n,.row e t 0 true []) :: σ.mem⟩ (Γ.fB n (.slice none 0 0) []) a w :=
 h.newRow hn (Below.refl _ _) (v:=.slice none 0 0) (fps:=[]) ⟨[],World.ownsRow_nil w c.base e t.rp.size,rfl,fun i x hx=>by simp at hx⟩ (fun b hb=>by cases hb) (fun b hb=>by cases hb) (fun _=>⟨cO _ _,fun b hb=>by cases hb⟩)
theorem SR {σ τ:St} (h:qH σ τ):∀{Γ:aC},aH c σ Γ a w->∃ Γ',aH c τ Γ' a w:=by
 induction h with
 | refl σ=>exact fun hs=>⟨_,hs⟩
 | conv h0 h ih =>
  intro Γ hs
  obtain⟨Γ',hs'⟩:=h0 hs
  exact ih hs'
 | @box σ τ k j n e t x cs h1 h2 h3 h ih =>
  intro Γ hs
  have hs2:=hs.Re h3 e t
  have hkn:k ≠ n:=fun e=>by rw[e,h3] at h1; cases h1
  have hk2:look ((n,ay.row e t 0 true []) :: σ.mem) k=some (.bx x cs):=by rw[aG _ _ hkn]; exact h1
  refine ih (hs2.abi hk2 fun us hus=>?_)
  obtain⟨u,hu,hr⟩:=hus.get h2
  obtain⟨rfl,_⟩:=hr
  have hset:us.set j (.slice none 0 0)=us:=by
   obtain⟨hj,hu⟩:=List.getElem?_eq_some_iff.1 hu
   rw[<-hu]; exact List.set_getElem_self hj
  rw[<-hset]
  exact hus.set j ⟨rfl,_,aD ..,le_refl _,fun _=>by rw[aC.cI]⟩
 | @slot σ τ d n e t h1 h3 h ih =>
  intro Γ hs
  have hs2:=hs.Re h3 e t
  obtain⟨u,hu,hv⟩:=hs2.tm d _ h1
  obtain⟨rfl,_⟩:=hv
  refine ih (Γ:=Γ.fB n (.slice none 0 0) []) ?_
  refine { hs2 with tm:=fun d2 v2 hd2=>?_ }
  simp only[look] at hd2
  split at hd2
  ·rename_i e; injection hd2 with hd2; subst hd2 e
   exact⟨_,hu,rfl,_,aD ..,le_refl _,fun _=>by rw[aC.cI]⟩
  ·exact hs2.tm d2 v2 hd2
theorem Df (hs:aH c σ Γ a w) (h:Wk σ τ):∃ Γ',aH c τ Γ' a w:=by
 obtain⟨σ',h1,h2⟩:=h
 obtain⟨Γ1,hs1⟩:=SR h1 hs
 exact XO hs1 h2
end
section
variable (P:Program) (T:TypeId->Option Ty) (n:Nat)
def pj (next:St->Prop) (Q:Exit->St->Prop):Exit->St->Prop
 | .normal,σ=>next σ
 | e,σ=>Q e σ
def yv (id:Nat) (Q:Exit->St->Prop):Exit->St->Prop
 | .exit i,σ=>if i=id then Q .normal σ else Q (.exit i) σ
 | e,σ=>Q e σ
def AC:Code->(Exit->St->Prop)->St->Prop
 | .skip,Q,σ=>Q .normal σ
 | .region _ ops draw,Q,σ =>
  match draw with
  | true=>AO P T n ops.toList ops.toList σ [] (fun σ' tr=>mH ops.toList tr=true/\Q .normal σ')
  | false=>AO P T n ops.toList ops.toList σ [] (fun σ' _=>Q .normal σ')
 | .seq x y,Q,σ=>AC x (pj (fun σ'=>AC y Q σ') Q) σ
 | .cond c x y,Q,σ =>
  match ev (look σ.tmps) c with
  | some (.sc (.bool b))=>(b=true->AC x Q σ)/\(b=false->AC y Q σ)
  | some (.nb p q)=>(p->AC x Q σ)/\(q->AC y Q σ)
  | _=>False
 | .block id x,Q,σ=>AC x (yv id Q) σ
 | .loop x,Q,σ=>∃(δ:Type) (S:δ->St) (ok:δ->Prop) (μ:δ->Nat) (x0:δ),Wk σ (S x0)/\ok x0/\∀y,ok y->AC x (pj (fun σ'=>∃y',Wk σ' (S y')/\ok y'/\μ y' < μ y) Q) (S y)
 | .exit id,Q,σ=>Q (.exit id) σ
 | .ret,Q,σ=>Q .ret σ
 | _,_,_=>False
end
section
variable {P:Program} {T:TypeId->Option Ty} {c:Cx} [Nonempty (CG P c)]
theorem jX (hT:bD P T) (hmix:P.follows .mixedOrders=true):∀{x:Code} {Q:Exit->St->Prop} {Q':Exit->Act->World->Prop} {σ:St} {Γ:aC} {a:Act} {w:World},AC P T c.n x Q σ->aH c σ Γ a w →
  (∀e σ' Γ' a' w',Q e σ'->aH c σ' Γ' a' w'->Q' e a' w')->x.wp P Q' a w
 | .skip,Q,Q',σ,Γ,a,w,h,hs,hQ=>wp_skip (hQ _ _ _ _ _ h hs)
 | .region id ops draw,Q,Q',σ,Γ,a,w,h,hs,hQ=>by
  obtain⟨l⟩:=ops
  cases draw with
  | true=>exact K8 hT hmix hs h fun σ' Γ' a' w' hq hs'=>hQ _ _ _ _ _ hq hs'
  | false=>exact Lj hT hs h fun σ' Γ' a' w' hq hs'=>hQ _ _ _ _ _ hq hs'
 | .seq x y,Q,Q',σ,Γ,a,w,h,hs,hQ=>by
  refine wp_seq (jX hT hmix (show AC P T c.n x _ σ from h) hs fun e σ' Γ' a' w' hq hs'=>?_)
  cases e with
  | normal=>exact jX hT hmix (show AC P T c.n y Q σ' from hq) hs' hQ
  | _=>exact hQ _ _ _ _ _ hq hs'
 | .cond k x y,Q,Q',σ,Γ,a,w,h,hs,hQ=>by
  simp only[AC] at h
  split at h
  ·rename_i b hb
   have hv:a.eval k=.bool b:=(ll hs (fun t _=>rfl) hb:aR c σ.mem Γ w _ (a.eval k)).1
   cases b with
   | true=>exact wp_cond_true hv (jX hT hmix (h.1 rfl) hs hQ)
   | false=>exact wp_cond_false hv (jX hT hmix (h.2 rfl) hs hQ)
  ·rename_i p q hb
   obtain⟨b,hv,hp,hq⟩:=(ll hs (fun t _=>rfl) hb:aR c σ.mem Γ w _ (a.eval k))
   cases b with
   | true=>exact wp_cond_true hv (jX hT hmix (h.1 (hp rfl)) hs hQ)
   | false=>exact wp_cond_false hv (jX hT hmix (h.2 (hq rfl)) hs hQ)
  ·exact h.elim
 | .block id x,Q,Q',σ,Γ,a,w,h,hs,hQ=>by
  refine wp_block (jX hT hmix (show AC P T c.n x _ σ from h) hs fun e σ' Γ' a' w' hq hs'=>?_)
  cases e with
  | exit i =>
   simp only[yv,Exit.inBlock] at hq ⊢
   split
   ·rename_i e; rw[if_pos e] at hq; exact hQ _ _ _ _ _ hq hs'
   ·rename_i e; rw[if_neg e] at hq; exact hQ _ _ _ _ _ hq hs'
  | _=>exact hQ _ _ _ _ _ hq hs'
 | .loop x,Q,Q',σ,Γ,a,w,h,hs,hQ=>by
  obtain⟨δ,S,ok,μ,x0,hw0,hk0,hround⟩:=h
  have hmin:∀(a:Act) (w:World),(∃m,∃y Γ,ok y/\aH c (S y) Γ a w/\μ y=m)->∃m,(∃y Γ,ok y/\aH c (S y) Γ a w/\μ y=m)/\∀y Γ,ok y->aH c (S y) Γ a w->m<=μ y:=by
   rintro a w ⟨m,hm⟩
   induction m using strongRecOn with
   | _ m ih =>
    by_cases hlt:∃y Γ,ok y/\aH c (S y) Γ a w/\μ y < m
    ·obtain⟨y,Γ,h1,h2,h3⟩:=hlt
     exact ih (μ y) h3 ⟨y,Γ,h1,h2,rfl⟩
    ·refine⟨m,hm,fun y Γ h1 h2=>?_⟩
     rcases lt_or_ge (μ y) m with h3|h3
     ·exact absurd ⟨y,Γ,h1,h2,h3⟩ hlt
     ·exact h3
  have hfun:∃ ν:Act->World->Nat,∀a w,(∃m,∃y Γ,ok y/\aH c (S y) Γ a w/\μ y=m)->(∃y Γ,ok y/\aH c (S y) Γ a w/\μ y=ν a w)/\∀y Γ,ok y->aH c (S y) Γ a w->ν a w<=μ y:=by
   refine⟨fun a w=>@dite _ (∃m,∃y Γ,ok y/\aH c (S y) Γ a w/\μ y=m) (Classical.propDecidable _) (fun h=>Classical.choose (hmin a w h)) (fun _=>0),fun a w h=>?_⟩
   simp only[dif_pos h]
   exact Classical.choose_spec (hmin a w h)
  obtain⟨ν,hν⟩:=hfun
  obtain⟨Γ0,hs0⟩:=Df hs hw0
  refine wp_loop (fun a w=>∃y Γ,ok y/\aH c (S y) Γ a w) ν ⟨x0,Γ0,hk0,hs0⟩ fun a1 w1 hI=>?_
  obtain⟨y0,Γ1,h1,h2⟩:=hI
  obtain⟨⟨y,Γ2,h3,h4,h5⟩,h6⟩:=hν a1 w1 ⟨_,y0,Γ1,h1,h2,rfl⟩
  refine jX hT hmix (hround y h3) h4 fun e σ' Γ' a' w' hq hs'=>?_
  cases e with
  | normal =>
   obtain⟨y',hwk,hk',hlt⟩:=hq
   obtain⟨Γ3,hs3⟩:=Df hs' hwk
   refine⟨⟨y',Γ3,hk',hs3⟩,?_⟩
   have:=(hν a' w' ⟨_,y',Γ3,hk',hs3,rfl⟩).2 y' Γ3 hk' hs3
   omega
  | _=>exact hQ _ _ _ _ _ hq hs'
 | .exit id,Q,Q',σ,Γ,a,w,h,hs,hQ=>wp_exit (hQ _ _ _ _ _ h hs)
 | .ret,Q,Q',σ,Γ,a,w,h,hs,hQ=>wp_ret (hQ _ _ _ _ _ h hs)
 | .rangeFunc ..,_,_,_,_,_,_,h,_,_=>h.elim
 | .scope _,_,_,_,_,_,_,h,_,_=>h.elim
 | .label _,_,_,_,_,_,_,h,_,_=>h.elim
 | .goto _,_,_,_,_,_,_,h,_,_=>h.elim
 | .refuse _,_,_,_,_,_,_,h,_,_=>h.elim
end
def Wf:(t:Ty)->t.den->Prop
 | .int,n=>bU n
 | .bool,_=>True
 | .str,s=>s.size<=maxLen
 | .u8,n=>0<=n/\n<=255
 | .dr _,_=>True
 | .prod a b,x=>Wf a x.1/\Wf b x.2
 | .slice a,l=>l.length<=maxLen/\∀x ∈ l,Wf a x
 | .ext e a,x=>∀y,x=some y->e=.ref->Wf a y
theorem nA {w:World}:∀{t:Ty} {x:t.den} {cs:List Value} {fp:List Nat},t.rp.rep w cs x fp->Wf t x
 | .int,_,_,_,h=>h.2.2
 | .bool,_,_,_,_=>trivial
 | .str,_,_,_,h=>h.2.2
 | .u8,_,_,_,h=>h.2.2
 | .dr _,_,_,_,_=>trivial
 | .prod a b,x,cs,fp,h=>by obtain⟨c1,c2,f1,f2,_,_,h1,h2⟩:=h; exact⟨nA h1,nA h2⟩
 | .ext e a,x,cs,fp,h=>by
  intro y hy he
  subst hy he
  obtain⟨_,_,_,_,_,_,hr,_⟩:=h
  exact nA hr
 | .slice a,l,cs,fp,h=>by
  obtain⟨ad,cc,rfl,h2,h3,h4⟩:=h
  refine⟨le_trans h2 h3,fun x hx=>?_⟩
  rcases h4 with ⟨rfl,_⟩|⟨b,off,fps,hl,_,_,_,he⟩
  ·cases hx
  ·obtain⟨i,hi,rfl⟩:=List.getElem_of_mem hx
   obtain⟨f,cs,_,hr,_⟩:=he i _ (List.getElem?_eq_getElem hi)
   exact nA hr
section
variable (T:TypeId->Option Ty) (σ:St)
def oM:ResultVar->Option AV
 | .tmp t=>look σ.tmps t
 | .cell t ty =>
  match T ty,look σ.tmps t with
  | some tt,some (.ptr k off) =>
   match look σ.mem k with
   | some (.bx _ cs)=>if off+tt.size<=cs.length then some (vw tt cs off) else none
   | _=>none
  | _,_=>none
def Vy (v:AV):Prop:=(cellsOf v).all (rY σ)=true/\(bc (cellsOf v)).Nodup
def l9 (own:Bool) (rs:List ResultVar) (res:List aL):Prop :=
 match rs,res with
 | [r],[d] =>
  match oM T σ r with
  | some v=>v.ok=true/\dw (look σ.mem) d v/\(own=true->Vy σ v)
  | none=>False
 | rs,ds=>rs.length ≠ 1/\aA (fun r d=>match oM T σ r with
  | some v=>v.ok=true/\dw (look σ.mem) d v
  | none=>False) rs ds
end
def iE (i:Nat):List aL->Tm
 | []=>[]
 | d :: ds=>(i,av d.1 d.2) :: iE (i+1) ds
section
variable {P:Program} {T:TypeId->Option Ty} {c:Cx} {σ:St} {Γ:aC} {a:Act} {w:World}
def Dx (tmps:Array Value):ResultVar->Sem Value
 | .tmp t=>pure (tmps.getD t undef)
 | .cell x t=>do loadVar t (<-asAddr (tmps.getD x undef))
theorem j5 (fn:Func) (tmps:Array Value):results fn tmps=(do let vs <-fn.results.mapM (Dx tmps); pure (if h:vs.size=1 then vs[0] else .tuple vs)):=by
 have:(Dx tmps)=fun r=>(match r with|.tmp t=>pure (tmps.getD t undef)|.cell x t=>do loadVar t (<-asAddr (tmps.getD x undef)):Sem Value):=by funext r; cases r<;>rfl
 rw[this]; rfl
theorem oA (hT:bD P T) (hs:aH c σ Γ a w) {r:ResultVar} {v:AV} (h:oM T σ r=some v) (hok:v.ok=true) :
  ∃u,(Dx a.tmps r).run P w=.ok u w/\bq c σ.mem Γ w v u:=by
 cases r with
 | tmp t =>
  obtain⟨u,h1,h2⟩:=hs.tm t v h
  refine⟨u,?_,M5 h2 hok⟩
  simp only[Dx,Sem.run_pure]
  rw[Array.getD_eq_getD_getElem?,h1]; rfl
 | cell t ty =>
  simp only[oM] at h
  split at h
  ·rename_i tt k off ht hp
   split at h
   ·rename_i xo cs hk
    split at h
    ·rename_i hle
     injection h with h
     subst h
     obtain⟨us,e,hg,hc⟩:=vT hs hk
     obtain⟨u,h1,h2⟩:=hs.tm t _ hp
     have h2':u=.pointer (some ⟨Γ.loc k xo,off,none⟩):=by
      obtain⟨xo',cs',hq,he⟩:=h2
      rw[hk] at hq; cases hq; exact he
     subst h2'
     have hlen:=hc.len
     have hrun:=l8 (P:=P) (hT ty tt ht) (w:=w) (b:=Γ.loc k xo) (off:=off) (us:=(us.toList.drop off).take tt.size) (fun j v hv=>by
      rw[getElem?_take] at hv
      split at hv
      ·rw[List.getElem?_drop,Array.getElem?_toList] at hv
       rw[cell_of_row w _ _ us e (0,0) hg]; exact hv
      ·cases hv) (by rw[hlen] at hle; rw[length_take,List.length_drop]; omega)
     have hgc:=oB hc hle
     refine⟨_,?_,hgc⟩
     simp only[Dx,Array.getD_eq_getD_getElem?,h1,getD_some,asAddr,Sem.run_bind,Sem.run_pure,Result.andThen_ok,hrun]
     cases ha:tt.isAgg with
     | true=>rfl
     | false =>
      simp only[false_eq_true,if_false]
      have:=tt.pos; rw[tt.bW] at this
      rw[List.getD_eq_getElem?_getD,getElem?_take,if_pos this,List.getElem?_drop,add_zero,List.getD_eq_getElem?_getD]
    ·cases h
   ·cases h
  ·cases h
theorem sa:∀{ds:List aL} {i d:Nat} {v:AV},look (iE i ds) d=some v->i<=d/\d < i+ds.length/\∃e,ds[d - i]? = some e/\v=av e.1 e.2
 | [],_,_,_,h=>by cases h
 | e :: ds,i,d,v,h=>by
  simp only[iE,look] at h
  split at h
  ·rename_i hd; injection h with h; subst hd h; exact⟨le_refl _,by simp,e,by simp,rfl⟩
  ·obtain⟨h1,h2,e',h3,h4⟩:=sa h
   refine⟨J,by simp; omega,e',?_,h4⟩
   rw[show d - i=(d - (i+1))+1 from J]; exact h3
theorem BQ (hT:bD P T) {fn:Func} {own:Bool} {res:List aL} (hs:aH c σ Γ a w) (hx:own=true->∀b,c.X b->¬ c.S b) (h:l9 T σ own fn.results.toList res):∃v,(results fn a.tmps).run P w=.ok v w/\pb own c.base c.S w v res:=by
 unfold l9 at h
 have hone:∀{r:ResultVar} {d:aL} {v:AV} {u:Value},bq c σ.mem Γ w v u->dw (look σ.mem) d v->oy false c.base c.S w u d:=by
  intro r d v u hr hi
  obtain⟨fp,h1,h2,_⟩:=hs.jN hr hi
  exact⟨fp,h1,(fun h=>by cases h),h2⟩
 split at h
 ·rename_i r d hr
  split at h
  ·rename_i v hv
   obtain⟨hok,hi,hown⟩:=h
   obtain⟨u,h1,h2⟩:=oA (P:=P) hT hs hv hok
   have hfr:fn.results=#[r]:=oO hr
   refine⟨u,?_,?_⟩
   ·rw[j5,hfr,List.mapM_toArray,map_eq_pure_bind,Sem.run_bind,Sem.run_bind]
    simp only[List.mapM_cons,List.mapM_nil,Sem.run_bind,h1,Result.andThen_ok,Sem.run_pure]
    simp
   ·cases own with
    | false=>exact hone (r:=r) h2 hi
    | true =>
     obtain⟨ho,hn⟩:=hown rfl
     cases v with
     | agg cs =>
      obtain⟨us,rfl,hc⟩:=h2
      obtain⟨fp,r1,o1,_⟩:=hs.rE hc hi.2 ho hn
      exact⟨fp,⟨us,.inl ⟨hi.1,rfl⟩,r1⟩,fun _=>o1.up (hx rfl),fun b hb=>.inr ((o1.up (hx rfl)).2 b hb).1⟩
     | ke=>cases hok
     | dY _=>cases hok
     | _ =>
      have h2':=h2
      simp only[bq] at h2'
      obtain⟨fp,r1,o1,_⟩:=hs.rE (cs:=[_]) (us:=[u]) (And.intro h2' trivial) hi.2 ho hn
      exact⟨fp,⟨[u],.inr ⟨hi.1,rfl⟩,r1⟩,fun _=>o1.up (hx rfl),fun b hb=>.inr ((o1.up (hx rfl)).2 b hb).1⟩
  ·exact h.elim
 ·rename_i ds _ _ hnot
  obtain⟨hl1,h⟩:=h
  have key:∀{rs:List ResultVar} {ds:List aL},aA (fun r d=>match oM T σ r with
    | some v=>v.ok=true/\dw (look σ.mem) d v
    | none=>False) rs ds->∃us:List Value,(rs.mapM (Dx a.tmps)).run P w=.ok us w/\us.length=rs.length/\aA (oy false c.base c.S w) us ds:=by
   intro rs
   induction rs with
   | nil=>intro ds h; cases ds with|nil=>exact⟨[],rfl,rfl,trivial⟩|cons=>exact h.elim
   | cons r rs ih =>
    intro ds h
    cases ds with
    | nil=>exact h.elim
    | cons d ds =>
     obtain⟨h1,h2⟩:=h
     split at h1
     ·rename_i v hv
      obtain⟨u,g1,g2⟩:=oA (P:=P) hT hs hv h1.1
      obtain⟨us,g3,g4,g5⟩:=ih h2
      refine⟨u :: us,?_,by simp[g4],hone (r:=r) g2 h1.2,g5⟩
      simp only[List.mapM_cons,Sem.run_bind,g1,g3,Result.andThen_ok,Sem.run_pure]
     ·exact h1.elim
  obtain⟨us,h1,h2,h3⟩:=key h
  have hfr:fn.results=fn.results.toList.toArray:=by simp
  refine⟨.tuple us.toArray,?_,?_⟩
  ·rw[j5,hfr,List.mapM_toArray,map_eq_pure_bind,Sem.run_bind,Sem.run_bind,h1]
   simp only[Result.andThen_ok,Sem.run_pure]
   rw[dif_neg (by simp only[List.size_toArray]; omega)]
  ·cases ds with
   | nil=>exact⟨us,rfl,h3⟩
   | cons d ds =>
    cases ds with
    | nil =>
     have:=h3.len
     simp at this
     omega
    | cons d' ds=>exact⟨us,rfl,h3⟩
theorem KB (hT:bD P T) (hmix:P.follows .mixedOrders=true) {f:FuncId} {fn:Func} {code:Code} {args:List aL} {RQ:St->Prop} {VQ:Nat->(Nat->Prop)->World->Value->Prop} (hf:P.funcs[f]? = some fn) (hname:(fn.name == "runtime.NumGoroutine")=false) (hb:fn.body=some code) (hn:args.length<=fn.ntmps)
  (hret:∀(c:Cx) (σ:St) (Γ:aC) (a:Act) (w:World),aH c σ Γ a w->(∀b,c.X b->¬ c.S b)->RQ σ->∃v,(results fn a.tmps).run P w=.ok v w/\VQ c.base c.S w v)
  (h:(∀d ∈ args,Wf d.1 d.2)->AC P T fn.ntmps code (fun e σ=>match e with
   | .normal|.ret=>RQ σ
   | _=>False) ⟨iE 0 args,[]⟩):(∀vs w,(callFunc f vs).run P w=.ok (.enter f vs) w) ∧
  ∀(w:World) (vs:List Value) (S:Nat->Prop),Gw P w->aA (fun v d=>∃fp,bV w v d fp/\∀b ∈ fp,S b) vs args →
   Calls P f vs.toArray w fun e w'=>Below w.heap.size w w'/\∃v,e=.returned v/\VQ w.heap.size S w' v:=by
 refine⟨fun vs w=>?_,fun w vs S hgw hargs=>?_⟩
 ·have h1:fn.name ≠ "runtime.NumGoroutine":=by simpa using hname
  simp[callFunc,hf,h1,hb]
 ·refine calls_of_wp hf hb ?_
  have hwf:∀d ∈ args,Wf d.1 d.2:=by
   clear h hn
   revert hargs
   generalize args=ds
   intro hargs
   induction ds generalizing vs with
   | nil=>intro d hd; cases hd
   | cons d ds ih =>
    cases vs with
    | nil=>exact hargs.elim
    | cons v vs =>
     obtain⟨⟨fp,⟨cs,_,hr⟩,_⟩,h2⟩:=hargs
     intro d' hd'
     rcases mem_cons.1 hd' with rfl|hd'
     ·exact nA hr
     ·exact ih vs h2 d' hd'
  have hlen:=hargs.len
  let c:Cx:=⟨w.heap.size,w,S,fn.ntmps,fun _=>False⟩
  have hlt:∀{d:aL} {v:Value} {fp:List Nat},bV w v d fp->∀b ∈ fp,b < w.heap.size:=fun⟨cs,_,hr⟩=>(Ty.rp _).lt hr
  have hs:aH c ⟨iE 0 args,[]⟩ ⟨fun _=>0,fun _=>undef,fun _=>[]⟩ { tmps:=vs.toArray++Array.replicate (fn.ntmps - vs.toArray.size) undef,defers:=[] } w:=by
   refine⟨fun d v hd=>?_,fun k B hk=>(by cases hk),fun k k' B B' b hk=>(by cases hk),fun k k' B B' b hk=>(by cases hk),.of (Below.refl _ _),le_refl _,rfl,by simp[c]; omega⟩
   obtain⟨_,h2,e,h3,rfl⟩:=sa hd
   have hdl:d < vs.length:=J
   have hx:∃u,vs[d]? = some u/\∃fp,bV w u e fp/\∀b ∈ fp,S b:=by
    have hh:∀{ds:List aL} {vs:List Value} {d:Nat},aA (fun v d=>∃fp,bV w v d fp/\∀b ∈ fp,S b) vs ds->ds[d]? = some e->∃u,vs[d]? = some u/\∃fp,bV w u e fp/\∀b ∈ fp,S b:=by
     intro ds
     induction ds with
     | nil=>intro vs d _ h; simp at h
     | cons d0 ds ih =>
      intro vs d hA h
      cases vs with
      | nil=>exact hA.elim
      | cons v vs =>
       cases d with
       | zero=>simp at h; subst h; exact⟨v,rfl,hA.1⟩
       | succ d=>simpa using ih hA.2 (by simpa using h)
    exact hh hargs (by simpa using h3)
   obtain⟨u,hu,fp,hdr,hS⟩:=hx
   refine⟨u,?_,b8 (jn hdr fun b hb=>⟨.inl (hS b hb),fun⟨k,B,hk,_⟩=>by cases hk⟩)⟩
   rw[Array.getElem?_append_left (by simpa using hdl)]
   simpa using hu
  have hcg:Nonempty (CG P c):=⟨CG.of hgw fun _ _ h=>h⟩
  refine jX (c:=c) hT hmix (h hwf) hs fun e σ' Γ' a' w' hq hs'=>?_
  cases e with
  | normal =>
   obtain⟨v,h1,h2⟩:=hret _ _ _ _ _ hs' (fun _ h=>h.elim) hq
   exact⟨hs'.defs,v,h1,hs'.below.to,v,rfl,h2⟩
  | ret =>
   obtain⟨v,h1,h2⟩:=hret _ _ _ _ _ hs' (fun _ h=>h.elim) hq
   exact⟨hs'.defs,v,h1,hs'.below.to,v,rfl,h2⟩
  | _=>exact hq.elim
theorem UP (hT:bD P T) (hmix:P.follows .mixedOrders=true) {f:FuncId} {fn:Func} {code:Code} {args:List aL} {own:Bool} {res:List aL} (hf:P.funcs[f]? = some fn) (hname:(fn.name == "runtime.NumGoroutine")=false) (hb:fn.body=some code) (hn:args.length<=fn.ntmps)
  (h:(∀d ∈ args,Wf d.1 d.2)->AC P T fn.ntmps code (fun e σ=>match e with
   | .normal|.ret=>l9 T σ own fn.results.toList res
   | _=>False) ⟨iE 0 args,[]⟩):Fn P f args own res :=
 KB (VQ:=fun b S w v=>pb own b S w v res) hT hmix hf hname hb hn (fun c σ Γ a w hs hx hq=>BQ (P:=P) hT hs (fun _=>hx) hq) h
def acU (T:TypeId->Option Ty) (rs:List ResultVar) (res:List aL) (σ:St):Prop :=
 rs.length ≠ 1/\aA (fun r d=>match oM T σ r with
  | some v=>v.ok=true/\dw (look σ.mem) d v/\Vy σ v
  | none=>False) rs res
end
section
variable (P:Program) (T:TypeId->Option Ty) (n:Nat)
def Fo (ops os:List Oper) (σ:St) (d:Option Nat) (tr:Tr) (Q:St->Tr->Prop) (e:bb):Prop:=AO P T n ops os (σ.app d e) (tr++[e.te]) Q
def KAC (y:Code) (Q:Exit->St->Prop) (σ:St):Prop:=AC P T n y Q σ
def KN (Q:Exit->St->Prop) (σ:St) (_:Tr):Prop:=Q .normal σ
def KD (ops:List Oper) (Q:Exit->St->Prop) (σ:St) (tr:Tr):Prop:=mH ops tr=true/\Q .normal σ
def KR (rs:List ResultVar) (own:Bool) (res:List aL) (e:Exit) (σ:St):Prop :=
 match e with
 | .normal|.ret=>l9 T σ own rs res
 | _=>False
def aF (x:Code) (Q:Exit->St->Prop) (σ:St):Prop:=∃(δ:Type) (S:δ->St) (ok:δ->Prop) (μ:δ->Nat) (x0:δ),Wk σ (S x0)/\ok x0/\∀y,ok y->AC P T n x (pj (fun σ'=>∃y',Wk σ' (S y')/\ok y'/\μ y' < μ y) Q) (S y)
def az {δ:Type} (S:δ->St) (ok:δ->Prop) (μ:δ->Nat) (y:δ) (σ':St):Prop:=∃y',Wk σ' (S y')/\ok y'/\μ y' < μ y
theorem aF.intro {x:Code} {Q:Exit->St->Prop} {σ:St} {δ:Type} (S:δ->St) (ok:δ->Prop) (μ:δ->Nat) (x0:δ) (h1:Wk σ (S x0)) (h2:ok x0) (h3:∀y,ok y->AC P T n x (pj (az S ok μ y) Q) (S y)):aF P T n x Q σ:=⟨δ,S,ok,μ,x0,h1,h2,h3⟩
theorem az.mk {δ:Type} {S:δ->St} {ok:δ->Prop} {μ:δ->Nat} {y:δ} {σ':St} (y':δ) (h1:Wk σ' (S y')) (h2:ok y') (h3:μ y' < μ y):az S ok μ y σ':=⟨y',h1,h2,h3⟩
def ZM (L:List (Nat × Nat)) (σ τ:St):Prop:=((τ.mem.map fun p=>iA L p.1).Nodup)/\NS (look σ.mem) (look τ.mem) (iA L) (τ.mem.map fun p=>iA L p.1) σ.tmps τ.tmps/\sy (look σ.mem) (look τ.mem) (iA L) (τ.mem.map fun p=>iA L p.1) τ.mem
theorem Wk.mk {σ τ:St} (L:List (Nat × Nat)) (h:ZM L σ τ):Wk σ τ:=⟨σ,.refl σ,L,h⟩
theorem Wk.fC {σ τ:St} (k j n:Nat) (e:TypeId) (t:Ty) {x:Option Nat} {cs:List AV} (h1:look σ.mem k=some (.bx x cs)) (h2:cs[j]? = some (.sc (.slice none 0 0))) (h3:look σ.mem n=none) (h:Wk ⟨σ.tmps,(k,.bx x (cs.set j (.row n 0))) :: (n,.row e t 0 true []) :: σ.mem⟩ τ):Wk σ τ:=⟨h.choose,.box k j n e t h1 h2 h3 h.choose_spec.1,h.choose_spec.2⟩
variable {P T n} {ops os:List Oper} {o:Oper} {σ:St} {tr:Tr} {Q:St->Tr->Prop} {QA:Exit->St->Prop} {x y:Code} {i j:Nat} {e:bb}
@[go_sem] theorem adv {d:Option Nat}:Fo P T n ops os σ d tr Q e=AO P T n ops os (σ.app d e) (tr++[e.te]) Q:=(rfl)
@[go_sem] theorem adQ:KAC P T n y QA σ=AC P T n y QA σ:=(rfl)
@[go_sem] theorem adY:KN QA σ tr=QA .normal σ:=(rfl)
@[go_sem] theorem aec:KD ops QA σ tr=(mH ops tr=true/\QA .normal σ):=(rfl)
@[go_sem] theorem ad7:AO P T n ops [] σ tr Q=Q σ tr:=(rfl)
@[go_sem] theorem adx {d:Option Nat} {op:Op} {t:TypeId} {ps:String} {af:Array Edge}:AO P T n ops (⟨d,op,t,ps,af,none⟩ :: os) σ tr Q =
  ((match d with|some d=>d < n|none=>True)/\me P T (look σ.tmps) (look σ.mem) (fresh σ.mem) (Fo P T n ops os σ d tr Q) ⟨d,op,t,ps,af,none⟩):=(rfl)
def MP (P:Program) (T:TypeId->Option Ty) (n:Nat) (ops os:List Oper) (o:Oper) (σ:St) (tr:Tr) (Q:St->Tr->Prop) (want:Bool) (g:Option Nat):Prop :=
 match g with
 | some g =>
  match look σ.tmps g with
  | some (.sc (.bool b)) =>
   (b=want->me P T (look ((g,.sc (.bool want)) :: σ.tmps)) (look σ.mem) (fresh σ.mem) (Fo P T n ops os ⟨(g,.sc (.bool want)) :: σ.tmps,σ.mem⟩ o.dst tr Q) o) ∧
   (b=!want->AO P T n ops os (St.app ⟨(g,.sc (.bool (!want))) :: σ.tmps,σ.mem⟩ o.dst .skip) (tr++[bb.te .skip]) Q)
  | some (.dY _)=>AO P T n ops os (σ.app o.dst .skip) (tr++[bb.te .skip]) Q
  | _=>False
 | none=>False
@[go_sem] theorem acN {d:Option Nat} {op:Op} {t:TypeId} {ps:String} {af:Array Edge} {want:Bool}:AO P T n ops (⟨d,op,t,ps,af,some (j,want)⟩ :: os) σ tr Q =
  ((match d with|some d=>d < n|none=>True)/\MP P T n ops os ⟨d,op,t,ps,af,some (j,want)⟩ σ tr Q want (qz ops j)):=(rfl)
def kj (P:Program) (T:TypeId->Option Ty) (n:Nat) (ops os:List Oper) (o:Oper) (σ:St) (tr:Tr) (Q:St->Tr->Prop) (want:Bool) (g:Nat) (v:Option AV):Prop :=
 match v with
 | some (.sc (.bool b)) =>
  (b=want->me P T (look ((g,.sc (.bool want)) :: σ.tmps)) (look σ.mem) (fresh σ.mem) (Fo P T n ops os ⟨(g,.sc (.bool want)) :: σ.tmps,σ.mem⟩ o.dst tr Q) o) ∧
  (b=!want->AO P T n ops os (St.app ⟨(g,.sc (.bool (!want))) :: σ.tmps,σ.mem⟩ o.dst .skip) (tr++[bb.te .skip]) Q)
 | some (.dY _)=>AO P T n ops os (σ.app o.dst .skip) (tr++[bb.te .skip]) Q
 | _=>False
@[go_sem] theorem aa0 {want:Bool} {g:Nat}:MP P T n ops os o σ tr Q want (some g)=kj P T n ops os o σ tr Q want g (look σ.tmps g):=(rfl)
@[go_sem] theorem acF {want:Bool} {g:Nat} {vs:List AV}:kj P T n ops os o σ tr Q want g (some (.dY vs))=AO P T n ops os (σ.app o.dst .skip) (tr++[bb.te .skip]) Q:=(rfl)
@[go_sem] theorem acH {g:Nat}:kj P T n ops os o σ tr Q true g (some (.sc (.bool true)))=me P T (look ((g,.sc (.bool true)) :: σ.tmps)) (look σ.mem) (fresh σ.mem) (Fo P T n ops os ⟨(g,.sc (.bool true)) :: σ.tmps,σ.mem⟩ o.dst tr Q) o:=by simp[kj]
@[go_sem] theorem acq {g:Nat}:kj P T n ops os o σ tr Q false g (some (.sc (.bool false)))=me P T (look ((g,.sc (.bool false)) :: σ.tmps)) (look σ.mem) (fresh σ.mem) (Fo P T n ops os ⟨(g,.sc (.bool false)) :: σ.tmps,σ.mem⟩ o.dst tr Q) o:=by simp[kj]
@[go_sem] theorem acM {g:Nat}:kj P T n ops os o σ tr Q true g (some (.sc (.bool false)))=AO P T n ops os (St.app ⟨(g,.sc (.bool false)) :: σ.tmps,σ.mem⟩ o.dst .skip) (tr++[bb.te .skip]) Q:=by simp[kj]
@[go_sem] theorem acI {g:Nat}:kj P T n ops os o σ tr Q false g (some (.sc (.bool true)))=AO P T n ops os (St.app ⟨(g,.sc (.bool true)) :: σ.tmps,σ.mem⟩ o.dst .skip) (tr++[bb.te .skip]) Q:=by simp[kj]
@[go_sem] theorem adM:AC P T n .skip QA σ=QA .normal σ:=(rfl)
@[go_sem] theorem adL {id:Nat} {l:List Oper}:AC P T n (.region id l.toArray false) QA σ=AO P T n l l σ [] (KN QA):=(rfl)
@[go_sem] theorem adD {id:Nat} {l:List Oper}:AC P T n (.region id l.toArray true) QA σ=AO P T n l l σ [] (KD l QA):=(rfl)
@[go_sem] theorem ad1:AC P T n (.seq x y) QA σ=AC P T n x (pj (KAC P T n y QA) QA) σ:=(rfl)
def qE (P:Program) (T:TypeId->Option Ty) (n:Nat) (x y:Code) (Q:Exit->St->Prop) (σ:St) (v:Option AV):Prop :=
 match v with
 | some (.sc (.bool b))=>(b=true->AC P T n x Q σ)/\(b=false->AC P T n y Q σ)
 | some (.nb p q)=>(p->AC P T n x Q σ)/\(q->AC P T n y Q σ)
 | _=>False
@[go_sem] theorem adz {k:Operand}:AC P T n (.cond k x y) QA σ=qE P T n x y QA σ (ev (look σ.tmps) k):=(rfl)
@[go_sem] theorem adE:qE P T n x y QA σ (some (.sc (.bool true)))=AC P T n x QA σ:=by simp[qE]
@[go_sem] theorem ads:qE P T n x y QA σ (some (.sc (.bool false)))=AC P T n y QA σ:=by simp[qE]
theorem ao {p:Prop} {dp:Decidable p} (h1:p->AC P T n x QA σ) (h2:¬ p->AC P T n y QA σ):qE P T n x y QA σ (some (.sc (.bool (@decide p dp)))) :=
 ⟨fun h=>h1 (of_decide_eq_true h),fun h=>h2 (of_decide_eq_false h)⟩
theorem sG {p:Prop} {dp:Decidable p} (h1:¬ p->AC P T n x QA σ) (h2:p->AC P T n y QA σ):qE P T n x y QA σ (some (.sc (.bool (!@decide p dp)))):=by
 refine⟨fun h=>h1 (of_decide_eq_false (by simpa using h)),fun h=>h2 (of_decide_eq_true (by simpa using h))⟩
theorem IZ {p q:Prop} (h1:p->AC P T n x QA σ) (h2:q->AC P T n y QA σ):qE P T n x y QA σ (some (.nb p q)):=⟨h1,h2⟩
theorem ig {b:Bool} (h1:b=true->AC P T n x QA σ) (h2:b=false->AC P T n y QA σ):qE P T n x y QA σ (some (.sc (.bool b))):=⟨h1,h2⟩
theorem lv {p:Prop} {dp:Decidable p} {g:Nat} (h1:p->me P T (look ((g,.sc (.bool true)) :: σ.tmps)) (look σ.mem) (fresh σ.mem) (Fo P T n ops os ⟨(g,.sc (.bool true)) :: σ.tmps,σ.mem⟩ o.dst tr Q) o)
  (h2:¬ p->AO P T n ops os (St.app ⟨(g,.sc (.bool false)) :: σ.tmps,σ.mem⟩ o.dst .skip) (tr++[bb.te .skip]) Q):kj P T n ops os o σ tr Q true g (some (.sc (.bool (@decide p dp)))) :=
 ⟨fun h=>h1 (of_decide_eq_true h),fun h=>h2 (of_decide_eq_false h)⟩
theorem tu {p:Prop} {dp:Decidable p} {g:Nat} (h1:¬ p->me P T (look ((g,.sc (.bool false)) :: σ.tmps)) (look σ.mem) (fresh σ.mem) (Fo P T n ops os ⟨(g,.sc (.bool false)) :: σ.tmps,σ.mem⟩ o.dst tr Q) o)
  (h2:p->AO P T n ops os (St.app ⟨(g,.sc (.bool true)) :: σ.tmps,σ.mem⟩ o.dst .skip) (tr++[bb.te .skip]) Q):kj P T n ops os o σ tr Q false g (some (.sc (.bool (@decide p dp)))) :=
 ⟨fun h=>h1 (of_decide_eq_false h),fun h=>h2 (of_decide_eq_true h)⟩
@[go_sem] theorem adb {id:Nat}:AC P T n (.block id x) QA σ=AC P T n x (yv id QA) σ:=(rfl)
@[go_sem] theorem adu:AC P T n (.loop x) QA σ=aF P T n x QA σ:=(rfl)
@[go_sem] theorem adw {id:Nat}:AC P T n (.exit id) QA σ=QA (.exit id) σ:=(rfl)
@[go_sem] theorem ad4:AC P T n .ret QA σ=QA .ret σ:=(rfl)
variable {nt:St->Prop}
@[go_sem] theorem adP:pj nt QA .normal σ=nt σ:=(rfl)
@[go_sem] theorem adr:pj nt QA (.exit i) σ=QA (.exit i) σ:=(rfl)
@[go_sem] theorem adG:pj nt QA .ret σ=QA .ret σ:=(rfl)
@[go_sem] theorem ady:yv i QA .normal σ=QA .normal σ:=(rfl)
@[go_sem] theorem adt:yv i QA (.exit j) σ=if j=i then QA .normal σ else QA (.exit j) σ:=(rfl)
@[go_sem] theorem adN:yv i QA .ret σ=QA .ret σ:=(rfl)
@[go_sem] theorem ael {rs:List ResultVar} {own:Bool} {res:List aL}:KR T rs own res .ret σ=l9 T σ own rs res:=(rfl)
@[go_sem] theorem ack:fresh []=0:=(rfl)
@[go_sem] theorem abF {k:Nat} {B:ay} {M:Mm}:fresh ((k,B) :: M)=if k+1<=fresh M then fresh M else k+1:=by
 have e:fresh ((k,B) :: M)=max (k+1) (fresh M):=(rfl)
 rw[e]
 by_cases h:k+1<=fresh M
 ·rw[if_pos h,Nat.max_eq_right h]
 ·rw[if_neg h,Nat.max_eq_left J]
theorem kT.CA {K:bb->Prop} {p:Prop} {rd:List Nat} {neg:Bool} (h:¬ p) (hk:K ⟨.sc (.bool neg),[],rd⟩):kT K p rd neg:=.inl ⟨h,hk⟩
theorem kT.eq {K:bb->Prop} {p:Prop} {rd:List Nat} (hk:K ⟨.nb p True,[],rd⟩):kT K p rd false:=.inr hk
theorem aO.mk {P:Program} {lm:Nat->Option ay} {nx:Nat} {K:bb->Prop} {f:FuncId} {vs:List AV} {args:List aL} {own:Bool} {res:List aL} (h:Fn P f args own res) (hk:aA (fun v d=>dw (lB lm (vs.flatMap AV.rows) (pC own res)) d v) vs args/\K (fT lm nx (vs.flatMap AV.rows) own res)):aO P lm nx K f vs:=.inl ⟨args,own,res,h,hk.1,hk.2⟩
theorem aO.s {P:Program} {lm:Nat->Option ay} {nx:Nat} {K:bb->Prop} {f:FuncId} {vs:List AV} {args:List aL} {i:Nat} (h:LW P f args i) (hk:aA (fun v d=>dw (kJ lm) d v) vs args/\∃v,vs[i]? = some v/\K ⟨v,[],vs.flatMap AV.rows⟩):aO P lm nx K f vs:=.inr (.inr (.inr (.inl ⟨args,i,hk.2.choose,h,hk.1,hk.2.choose_spec.1,hk.2.choose_spec.2⟩)))
theorem aO.g {P:Program} {lm:Nat->Option ay} {nx:Nat} {K:bb->Prop} {f:FuncId} {vs:List AV} {args:List aL} {e:TypeId} {t:Ty} {l:List t.den} (h:xt P f args e t l) (hk:aA (fun v d=>dw (kJ lm) d v) vs args/\K ⟨.row nx 0,[(nx,.row e t 0 true l)],vs.flatMap AV.rows⟩):aO P lm nx K f vs:=.inr (.inr (.inr (.inr (.inr (.inl ⟨args,e,t,l,h,hk.1,hk.2⟩)))))
theorem aO.r {P:Program} {lm:Nat->Option ay} {nx:Nat} {K:bb->Prop} {f:FuncId} {vs:List AV} {xs:List lC} {e:TypeId} {t:Ty} {l l':List t.den} {ret:Bool} {k ver:Nat} {o:Bool} (h:kl P f xs e t l l' ret) (hk:vs=.row k ver :: xs.map (fun c=>.sc c.val)/\lm k=some (.row e t ver o l)/\K ⟨if ret then .row k (ver+1) else .dY [],[(k,.row e t (if ret then ver+1 else ver) t.flat l')],[k]⟩):aO P lm nx K f vs:=.inr (.inr (.inr (.inr (.inr (.inr (.inl ⟨xs,e,t,l,l',ret,k,ver,o,h,hk.1,hk.2.1,hk.2.2⟩))))))
theorem aO.c {P:Program} {lm:Nat->Option ay} {nx:Nat} {K:bb->Prop} {f:FuncId} {vs:List AV} {t:Ty} {l:List t.den} {zs zs':List Value} {args:List aL} {own:Bool} {d:aL} {k:Nat} (mn:Bool) (h:Xs P f t l zs zs' args own d) (hk:He lm nx K t l zs zs' args own d mn k vs):aO P lm nx K f (.ptr k 0 :: vs):=.inr (.inr (.inr (.inr (.inr (.inr (.inr (.inl ⟨t,l,zs,zs',args,own,d,mn,k,vs,h,rfl,hk⟩)))))))
theorem aO.nb {P:Program} {lm:Nat->Option ay} {nx:Nat} {K:bb->Prop} {f:FuncId} {v:AV} {vs:List AV} {t:Ty} {l:List t.den} {zs:List Value} {args:List aL} (h:Qz P f t l zs args) (hk:SU v=some ⟨t,l⟩/\aA (fun v d=>dw (lB lm (vs.flatMap AV.rows) false) d v) vs args/\K ⟨.ptr nx 0,(nx,.box (v :: zs.map fun z=>.sc z)) :: aJ lm (vs.flatMap AV.rows),vs.flatMap AV.rows⟩):aO P lm nx K f (v :: vs):=.inr (.inr (.inr (.inr (.inr (.inr (.inr (.inr (.inl ⟨t,l,zs,args,v,vs,h,rfl,hk.1,hk.2.1,hk.2.2⟩))))))))
theorem aO.h {P:Program} {lm:Nat->Option ay} {nx:Nat} {K:bb->Prop} {f:FuncId} {vs:List AV} {args:Nat->List aL} {res:List aL} (kc:Nat) (h:∀b,Fn P f (args b) false res) (hk:(res.all fun d=>d.1.flat)=true/\(∀b,rM lm kc b->aA (fun v d=>zH lm kc b d v) vs (args b))/\K ⟨v7 res,[],kc :: vs.flatMap (CP lm)⟩):aO P lm nx K f vs:=.inr (.inr (.inr (.inr (.inr (.inr (.inr (.inr (.inr (.inr (.inl ⟨args,res,kc,h,hk⟩))))))))))
def N6 (lm:Nat->Option ay) (K:bb->Prop) (vs vs0:List AV) (M:Mm) (v:AV) (M':Mm):Prop :=
 Ce M M'/\aA (AQ (lB lm (kC (M.map (·.1)) (vs.flatMap AV.rows)) false) (M.map (·.1))) vs vs0/\jJ lm (M.map (·.1)) M/\K ⟨v,M'++aJ lm (kC (M.map (·.1)) (vs.flatMap AV.rows)),M.map (·.1)++kC (M.map (·.1)) (vs.flatMap AV.rows)⟩
theorem jw.mk {P:Program} {lm:Nat->Option ay} {K:bb->Prop} {f:FuncId} {vs vs0:List AV} {M M':Mm} {v:AV} (h:n0 P f vs0 M v M') (hk:N6 lm K vs vs0 M v M'):jw P lm K f vs:=⟨vs0,M,M',v,h,hk⟩
theorem aO.ma {P:Program} {lm:Nat->Option ay} {nx:Nat} {K:bb->Prop} {f:FuncId} {vs vs0:List AV} {M M':Mm} {v:AV} (h:n0 P f vs0 M v M') (hk:N6 lm K vs vs0 M v M'):aO P lm nx K f vs:=.inr (.inr (.inr (.inr (.inr (.inr (.inr (.inr (.inr (.inr (.inr (.inr (.inr (.inr (.inr (.inl (jw.mk h hk))))))))))))))))
theorem aO.l {P:Program} {lm:Nat->Option ay} {nx:Nat} {K:bb->Prop} {f:FuncId} {vs:List AV} {args:List aL} {e:TypeId} {t:Ty} {l:List t.den} (h:WY P f args e t l) (hk:aA (fun v d=>dw (lB lm (vs.flatMap AV.rows) false) d v) vs args/\K ⟨.row nx 0,(nx,.row e t 0 false l) :: aJ lm (vs.flatMap AV.rows),vs.flatMap AV.rows⟩):aO P lm nx K f vs:=.inr (.inr (.inr (.inr (.inr (.inr (.inr (.inr (.inr (.inr (.inr (.inr (.inr (.inr (.inr (.inr (.inl ⟨args,e,t,l,h,hk⟩))))))))))))))))
theorem aO.v {P:Program} {lm:Nat->Option ay} {nx:Nat} {K:bb->Prop} {f:FuncId} {vs:List AV} {args:List aL} {d:aL} (h:Fn P f args true [d]) (hk:aA (fun v d=>wP lm d v) vs args/\K ⟨jI nx d,(aN nx d.1 d.2).2,vs.flatMap Fc⟩):aO P lm nx K f vs:=.inr (.inr (.inr (.inr (.inr (.inr (.inr (.inr (.inr (.inr (.inr (.inr (.inr (.inr (.inr (.inr (.inr ⟨args,d,h,hk⟩))))))))))))))))
attribute [go_sem] N6 kC Ce mP jJ jT AQ wh Et
section
variable {lm:Nat->Option ay} {kc b:Nat} {d:aL}
@[go_sem] theorem adT {cs:List AV}:zH lm kc b d (.agg cs)=(d.1.isAgg=true/\jt lm kc b d.1 d.2 cs):=(rfl)
@[go_sem] theorem adq {cs:List AV}:CP lm (.agg cs)=(AV.agg cs).rows:=(rfl)
@[go_sem] theorem acO {x:Int} {cs:List AV}:jt lm kc b .int x cs=Is (nW lm) .int x cs:=(rfl)
@[go_sem] theorem acG {x:Bool} {cs:List AV}:jt lm kc b .bool x cs=Is (nW lm) .bool x cs:=(rfl)
@[go_sem] theorem acb {t:Ty} {x:List t.den} {cs:List AV}:jt lm kc b (.slice t) x cs=Is (nW lm) (.slice t) x cs:=(rfl)
@[go_sem] theorem acD {A B:Ty} {x:A.den × B.den} {cs:List AV}:jt lm kc b (.prod A B) x cs=(jt lm kc b A x.1 (cs.take A.size)/\jt lm kc b B x.2 (cs.drop A.size)):=(rfl)
end
theorem jl.mk {P:Program} {lm:Nat->Option ay} {nx:Nat} {K:bb->Prop} {f:FuncId} {vs:List AV} {args:List aL} {d:aL} (h:Fn P f args false [d]) (hk:d.1.flat=true/\aA (fun v d=>ye lm d v) vs args/\K ⟨av d.1 d.2,[],vs.flatMap (sx lm)⟩):Cs P lm nx K f vs:=.inl ⟨args,d,h,hk⟩
theorem jl.r {P:Program} {lm:Nat->Option ay} {nx:Nat} {K:bb->Prop} {f:FuncId} {ds:List aL} {e:TypeId} {t:Ty} {l l':List t.den} {k ver:Nat} {oo:Bool} {vs':List AV} (h:VR P f ds e t l l') (hk:lm k=some (.row e t ver oo l)/\aA (fun v d=>ye lm d v) vs' ds/\lQ lm (vs'.flatMap (sx lm))/\K ⟨.row k (ver+1),[(k,.row e t (ver+1) t.flat l')],k :: vs'.flatMap (sx lm)⟩):Cs P lm nx K f (.row k ver :: vs'):=.inr (.inr (.inl ⟨ds,e,t,l,l',k,ver,oo,vs',h,rfl,hk⟩))
theorem jl.ow {P:Program} {lm:Nat->Option ay} {nx:Nat} {K:bb->Prop} {f:FuncId} {vs:List AV} {args:List aL} {d:aL} (h:Fn P f args true [d]) (hk:aA (fun v d=>ye lm d v) vs args/\K ⟨jI nx d,(aN nx d.1 d.2).2,vs.flatMap (sx lm)⟩):Cs P lm nx K f vs:=.inr (.inr (.inr ⟨args,d,h,hk⟩))
theorem qu.mk {P:Program} {lm:Nat->Option ay} {K:bb->Prop} {f:FuncId} {A:Ty} {x:A.den} {vs:List AV} {d0:aL} {d:aL} (h:Fn P f (d0 :: kx A x) false [d]) (hk:d.1.flat=true/\aA (fun v d=>dw lm d v) vs [d0]/\K ⟨av d.1 d.2,[],vs.flatMap AV.rows⟩):SH P lm K f A x vs:=.inl ⟨[d0],d,h,hk⟩
@[go_sem] theorem acV {lm:Nat->Option ay} {d:aL} {k ver n:Nat}:wP lm d (.mX k ver (n+1))=(match lm k with
  | some (.ob none v (.je _ t l))=>v=ver/\t.flat=true/\n+1<=l.length/\d=⟨.slice t,l.take (n+1)⟩
  | _=>False):=(rfl)
@[go_sem] theorem adB {lm:Nat->Option ay} {d:aL} {v:Value}:wP lm d (.sc v)=dw (kJ lm) d (.sc v):=(rfl)
@[go_sem] theorem acY {lm:Nat->Option ay} {d:aL} {cs:List AV}:wP lm d (.agg cs)=dw (kJ lm) d (.agg cs):=(rfl)
@[go_sem] theorem adH {k ver n:Nat}:Fc (.mX k ver n)=[k]:=(rfl)
@[go_sem] theorem aeb {v:Value}:Fc (.sc v)=[]:=(rfl)
@[go_sem] theorem adJ {cs:List AV}:Fc (.agg cs)=(AV.agg cs).rows:=(rfl)
@[go_sem] theorem adR {lm:Nat->Option ay} {d:aL} {f:FuncId} {ks:List Nat}:ye lm d (.iQ f ks)=GR lm d.1 d.2 f ks:=(rfl)
@[go_sem] theorem ad5 {lm:Nat->Option ay} {d:aL} {t:Ty} {l:List t.den}:ye lm d (.sl t l)=dw lm d (.sl t l):=(rfl)
@[go_sem] theorem adA {lm:Nat->Option ay} {d:aL} {k ver:Nat}:ye lm d (.row k ver)=dw lm d (.row k ver):=(rfl)
@[go_sem] theorem adS {lm:Nat->Option ay} {K:bb->Prop} {s t:Ty} {l:List s.den} {m:List t.den} {a b:Int}:mB lm K s l a b (.sl t m)=K ⟨.sl s ((l.take b.toNat).drop a.toNat),aJ lm (AV.sl t m).rows,(AV.sl t m).rows⟩:=(rfl)
theorem mB.keep {lm:Nat->Option ay} {K:bb->Prop} {s:Ty} {l:List s.den} {a b:Int} {k ver:Nat} (h:K ⟨.sl s ((l.take b.toNat).drop a.toNat),aJ lm [k],[k]⟩):mB lm K s l a b (.row k ver):=.inl h
theorem mB.cut {lm:Nat->Option ay} {K:bb->Prop} {s:Ty} {l:List s.den} {a b:Int} {k ver:Nat} {e:TypeId} {o:Bool} (h:a=0/\lm k=some (.row e s ver o l)/\K ⟨.row k (ver+1),[(k,.row e s (ver+1) s.flat (l.take b.toNat))],[k]⟩):mB lm K s l a b (.row k ver):=.inr ⟨h.1,e,o,h.2.1,h.2.2⟩
theorem lF.pos {K:bb->Prop} {a b:Int} (h0:0<=a) (h1:0 < b) (h:K (.val (.sc (.int .i64 (a / b))))):lF K a b:=⟨_,.inl ⟨h0,h1,rfl⟩,h⟩
theorem fR.pos {K:bb->Prop} {a b:Int} (h0:0<=a) (h1:0 < b) (h:K (.val (.sc (.int .i64 (a % b))))):fR K a b:=⟨_,.inl ⟨h0,h1,rfl⟩,h⟩
theorem nC.mk {K:bb->Prop} {op:BinOp} {x y:Nat} (r:Nat) (h:floatBits op .f64 x y=some r) (hk:K (.val (.sc (.float .f64 r)))):nC K op x y:=⟨r,h,hk⟩
theorem Py.mk {K:bb->Prop} {x:Nat} (n:Int) (h:floatToIntVal .f64 x .i64=some n) (hI:bU n) (hk:K (.val (.sc (.int .i64 n)))):Py K x:=⟨n,h,hI,hk⟩
theorem Uw {P:Program} {T:TypeId->Option Ty} (hT:bD P T) (hmix:P.follows .mixedOrders=true) {f:FuncId} {fn:Func} {code:Code} {args:List aL} {own:Bool} {res:List aL} (hf:P.funcs[f]? = some fn) (hname:(fn.name == "runtime.NumGoroutine")=false) (hb:fn.body=some code) (n:Nat) (hn:fn.ntmps=n) (rs:List ResultVar) (hr:fn.results=rs.toArray) (hna:args.length<=n)
  (h:(∀d ∈ args,Wf d.1 d.2)->AC P T n code (KR T rs own res) ⟨iE 0 args,[]⟩):Fn P f args own res:=by
 subst hn
 refine UP hT hmix hf hname hb hna fun hwf=>?_
 have:=h hwf
 have e:(KR T rs own res)=fun e σ=>match e with
   | .normal|.ret=>l9 T σ own fn.results.toList res
   | _=>False:=by
  have hrl:fn.results.toList=rs:=by rw[hr]
  rw[hrl]; funext e σ; cases e<;>rfl
 rw[e] at this
 exact this
end
theorem Vg {α:Type} (k:Nat) (v:α) (l:List (Nat × α)):look ((k,v) :: l) k=some v:=aD k v l
theorem Q2 {α:Type} {k d:Nat} (v:α) (l:List (Nat × α)) (h:(d == k)=false):look ((k,v) :: l) d=look l d:=aG v l (by simpa using h)
attribute [go_sem] reduceIte reduceCtorEq Nat.reduceEqDiff Nat.reduceLT Nat.reduceLeDiff Nat.reduceAdd Nat.reduceBEq Nat.reduceMul Int.reduceToNat Int.reduceLE Int.reduceLT Int.reduceEq Int.reduceNeg
attribute [go_sem] List.map_cons List.map_nil PE Od BA Bf GI G0 CZ GU GL Nat.zero_add List.drop_zero Av TR xX Hw rM v7 lJ ay.ob.injEq Ah.map.injEq true_implies forall_eq' VI N7 Pb D1 GR zZ y8 wZ vz sQ sM Js Dk Hj qw kx sx dI jV ku Ty.plain Ex.zv
attribute [go_sem] yV lQ ZS nW vq SU A4 He AV.fx.injEq acU kJ ay.Vv ay.Ht dF AS RP PF aa9 MkV Option.map_some Option.map_none me BB G2 O5 Dg GP sI sw qL Ca yI BL G1 aah O4 lC.val Wo GQ vu Dm C3 Pj EG qv ay.fz aJ aN jI pC fT ia lB GK o9 zj qF xN BW Om PI
 ev Gk Vg Q2 look_nil vw js av cellsOf AV.ok AV.rows AV.data ay.data qz St.app bb.val bb.te bb.skip Ty.isAgg Ty.size Ty.flat Ty.zero Ty.zc Ky iE l9 oM dw Is WB Vy rY gR lK bc aA mW Ly PY NS iS sy iA vj idx ZM uv Z6 rdB rdT rdU ZX Xc Tn WQ Rk decide_true decide_false toNat_natCast
def ni (l:List Int) (i:Nat):Int:=nth (t:=.int) l i
@[go_sem] theorem adI (l:List Int) (i:Nat):@nth .int l i=ni l i:=(rfl)
theorem cd {l:List Int} {i:Nat} (h:i < l.length):ni l i=l[i]:=aM (t:=.int) h
theorem WG {l:List Int} {i:Nat} (h:l.length<=i):ni l i=0:=by rw[ni,nth,List.getD_eq_getElem?_getD,List.getElem?_eq_none h]; rfl
@[go_sem] theorem aej {α β:Type} (a:α) (b:β):(∃x cs,a=x/\b=cs)=True:=by simp
attribute [go_sem] exists_eq_left exists_eq_left' exists_eq' exists_eq and_imp beq_self_eq_true Int.toNat_zero List.length_append List.nodup_nil List.nodup_cons List.not_mem_nil not_false_eq_true List.mem_cons Option.getD_none Option.getD_some implies_true false_implies or_false or_true false_or true_or forall_eq List.cons.injEq AV.sc.injEq AV.sl.injEq ay.bx.injEq Value.int.injEq Value.bool.injEq Sigma.mk.injEq heq_eq_eq true_and and_true and_self false_and and_false if_true if_false List.length_cons List.length_nil List.take_succ_cons List.take_zero List.drop_succ_cons List.drop_zero List.cons_append List.nil_append List.getD_cons_zero List.getD_cons_succ List.map_cons List.map_nil List.all_cons List.all_nil List.flatMap_cons List.flatMap_nil List.toList_toArray forall_const Bool.not_true Bool.not_false Bool.false_eq_true Bool.and_true Bool.true_and Bool.or_false Bool.false_or Bool.or_true Bool.true_or Bool.and_false Bool.false_and List.length_replicate List.length_set ne_eq List.headD_cons Option.bind_some Option.some.injEq Option.isSome_some List.getElem?_cons_zero List.getElem?_cons_succ List.getElem?_toArray Nat.zero_add Option.none_or Option.some_or
theorem AI {p q:Prop} (g:q) (h:p:=by first|omega|(constructor<;>omega)|kernel_rfl):p/\q:=⟨h,g⟩
theorem WK {σ τ:St} (h:ZM [] σ τ:=by (try simp (maxSteps:=9^9) only [go_sem]); try (and_intros<;>first|rfl|omega|exact⟨_,rfl⟩)):Wk σ τ:=Wk.mk [] h
theorem cw {P:Program} {lm:Nat -> Option ay} {nx:Nat} {K:bb -> Prop} {f:FuncId} {vs:List AV} {args:List aL} {own:Bool} {res:List aL} (h:Fn P f args own res) (hk:aA (fun v d=>dw (lB lm (vs.flatMap AV.rows) (pC own res)) d v) vs args /\ K (fT lm nx (vs.flatMap AV.rows) own res)):aO P lm nx K f vs:=aO.mk h hk
theorem Ez {p:Prop} (h:p:=by (repeat refine AI ?_); first|kernel_rfl|omega|rfl):p:=h
theorem Sz {p q:Prop} (h:q) (e:(Unit->q)->p:=by intro h; (try simp (maxSteps:=9^9) only[go_sem]); (repeat refine AI ?_); exact h ()):p:=e fun _=>h
theorem Cz {p q:Prop} {P:Program} {f:FuncId} {a:List aL} {o:Bool} {r:List aL} (c:Fn P f a o r) (h:q) (e:Fn P f a o r->(Unit->q)->p:=by intro c h; (try simp (maxSteps:=9^9) only[go_sem]); (repeat refine AI ?_); refine cw c ?_; (try simp (maxSteps:=9^9) only[go_sem]); (repeat refine AI ?_); exact h ()):p:=e c fun _=>h
theorem Bz {p q:Prop} {P:Program} {f:FuncId} {a:List aL} {o:Bool} {r:List aL} (c:Fn P f a o r) (h:q) (e:Fn P f a o r->(Unit->q)->p:=by intro c h; (try simp (maxSteps:=9^9) only[go_sem]); (repeat refine AI ?_); refine cw c ?_; (try simp (maxSteps:=9^9) only[go_sem]); exact h ()):p:=e c fun _=>h
theorem Nz {p q:Prop} (h:q) (e:(Unit->q)->p:=by intro h; (try simp (maxSteps:=9^9) only[go_sem]); exact h ()):p:=e fun _=>h
theorem Tz {p q a1:Prop} (d1:a1) (h:q) (e:a1->(Unit->q)->p:=by intro d1 h; (try simp (maxSteps:=9^9) only[go_sem,d1]); (repeat refine AI ?_); exact h ()):p:=e d1 fun _=>h
theorem Uz {p q a1:Prop} (d1:a1) (h:q) (e:a1->(Unit->q)->p:=by intro d1 h; (try simp (maxSteps:=9^9) only[go_sem,d1]); exact h ()):p:=e d1 fun _=>h
theorem fy {p q a1 a2:Prop} (d1:a1) (d2:a2) (h:q) (e:a1->a2->(Unit->q)->p:=by intro d1 d2 h; (try simp (maxSteps:=9^9) only[go_sem,d1,d2]); (repeat refine AI ?_); exact h ()):p:=e d1 d2 fun _=>h
theorem tW {p q a1 a2:Prop} (d1:a1) (d2:a2) (h:q) (e:a1->a2->(Unit->q)->p:=by intro d1 d2 h; (try simp (maxSteps:=9^9) only[go_sem,d1,d2]); exact h ()):p:=e d1 d2 fun _=>h
theorem qk {p q a1 a2 a3:Prop} (d1:a1) (d2:a2) (d3:a3) (h:q) (e:a1->a2->a3->(Unit->q)->p:=by intro d1 d2 d3 h; (try simp (maxSteps:=9^9) only[go_sem,d1,d2,d3]); (repeat refine AI ?_); exact h ()):p:=e d1 d2 d3 fun _=>h
theorem Uz3 {p q a1 a2 a3:Prop} (d1:a1) (d2:a2) (d3:a3) (h:q) (e:a1->a2->a3->(Unit->q)->p:=by intro d1 d2 d3 h; (try simp (maxSteps:=9^9) only[go_sem,d1,d2,d3]); exact h ()):p:=e d1 d2 d3 fun _=>h
theorem Fz {p:Prop} (h:p:=by (try simp (maxSteps:=9^9) only[go_sem]); all_goals ((repeat refine AI ?_); first|kernel_rfl|omega|rfl)):p:=h
theorem Gz {p a:Prop} (d:a) (e:a->p:=by intro d; (try simp (maxSteps:=9^9) only[go_sem,d]); all_goals ((repeat refine AI ?_); first|kernel_rfl|omega|rfl)):p:=e d
theorem CW {p a b:Prop} (d:a) (d2:b) (e:a->b->p:=by intro d d2; (try simp (maxSteps:=9^9) only[go_sem,d,d2]); all_goals ((repeat refine AI ?_); first|kernel_rfl|omega|rfl)):p:=e d d2
end DW

section
open Go.RowKit
abbrev GN:=List Int
abbrev GF:Rp GN:=Rp.slice Rp.int ae
abbrev M9:=Bool × GN
abbrev XL:Rp M9:=Rp.prod Rp.bool GF
abbrev Pk:=M9 × GN
abbrev Ox:Rp Pk:=Rp.prod XL GF
abbrev II:=Pk × Pk
abbrev G7:Rp II:=Rp.prod Ox Ox
theorem Xl {α:Type} {l:List α} (h:l.length=1):∃c0,l=[c0]:=by
 match l,h with
 | [c0],_=>exact⟨c0,rfl⟩
theorem PA {α:Type} {l:List α} (h:l.length=6):∃c0 c1 c2 c3 c4 c5,l=[c0,c1,c2,c3,c4,c5]:=by
 match l,h with
 | [c0,c1,c2,c3,c4,c5],_=>exact⟨c0,c1,c2,c3,c4,c5,rfl⟩
end

namespace DW
open Go.RowKit
abbrev aq:Ty:=.slice .int
abbrev dM:Ty:=.prod .bool aq
abbrev au:Ty:=.prod dM aq
abbrev ax:Ty:=.prod au au
abbrev bu:Ty:=.prod .int ax
abbrev an:Ty:=.prod .int .int
abbrev iz:Ty:=.slice (.slice an)
abbrev cY:Ty:=.prod an (.prod an (.prod (.slice an) (.prod iz (.slice an))))
abbrev tE:Ty:=.prod an an
abbrev bf:Ty:=.prod au (.prod au (.prod au (.prod au (.prod au au))))
abbrev bz:Ty:=.prod au (.prod au au)
abbrev aK:Ty:=.prod an (.prod an (.prod .int .bool))
abbrev dK:Ty:=.prod ax ax
abbrev aP:Ty:=.prod .int (.prod .bool (.prod tE (.prod iz (.prod (.slice bf) (.prod (.slice bz) (.prod (.slice an) aq))))))
abbrev mc:Ty:=.prod cY (.prod (.slice aP) (.prod aq (.slice aq)))
abbrev xK:Ty:=.prod .bool (.prod tE iz)
abbrev NC:Ty:=.prod xK (.prod xK (.prod xK xK))
abbrev Yb:Ty:=.prod cY NC
abbrev aal:Ty:=.prod (.slice .u8) (.prod .int .int)
def AF:TypeId->Option Ty
 | 3=>some .int
 | 4=>some .bool
 | 9=>some .str
 | 31=>some aq
 | 5=>some .u8
 | 22=>some (.slice .u8)
 | 159=>some aal
 | 38=>some dM
 | 40=>some au
 | 74=>some (.slice au)
 | 42=>some ax
 | 77=>some bu
 | 47=>some (.slice bu)
 | 67=>some (.slice ax)
 | 44=>some bu
 | 24=>some an
 | 25=>some (.slice an)
 | 32=>some (.slice aq)
 | 26=>some iz
 | 28=>some cY
 | 55=>some tE
 | 101=>some xK
 | 198=>some NC
 | 200=>some Yb
 | 170=>some bf
 | 172=>some bz
 | 118=>some an
 | 60=>some aP
 | 34=>some mc
 | 56=>some (.slice bf)
 | 57=>some (.slice bz)
 | 58=>some (.slice an)
 | 30=>some (.slice aP)
 | 226=>some aK
 | 223=>some (.slice aK)
 | 231=>some ax
 | 239=>some (.slice ax)
 | 238=>some dK
 | 235=>some (.slice dK)
 | 106=>some (.prod ax (.slice bu))
 | _=>none
theorem bA:Tryz.prog.follows .mixedOrders=true:=by kernel_rfl
theorem bK:bD prog AF:=by
 intro ty t h
 unfold AF at h
 split at h
 all_goals first|cases h; done|(injection h with h; subst h; exact aaH ai ai)
attribute [go_sem] AF
theorem adp:¬ VL AF:=fun h=>h 4 rfl
@[go_sem] theorem acL {P:Program} {lt:Nat->Option AV} {K:bb->Prop} {op:BinOp} {ty:TypeId} {x y:Operand}:Ji P AF lt K op ty x y=yI P lt K op ty x y:=if_neg adp
attribute [go_sem] Tryz.underlying3
attribute [go_sem] Tryz.underlying4
attribute [go_sem] Tryz.underlying9
attribute [go_sem] Tryz.underlying5
attribute [go_sem] Tryz.underlying31
attribute [go_sem] Tryz.underlying22
attribute [go_sem] Tryz.underlying159
attribute [go_sem] Tryz.underlying332
attribute [go_sem] Tryz.underlying38
attribute [go_sem] Tryz.underlying40
attribute [go_sem] Tryz.underlying74
attribute [go_sem] Tryz.underlying42
attribute [go_sem] Tryz.underlying67
attribute [go_sem] Tryz.underlying77
attribute [go_sem] Tryz.underlying47
attribute [go_sem] Tryz.underlying44
attribute [go_sem] Tryz.underlying24
attribute [go_sem] Tryz.underlying25
attribute [go_sem] Tryz.underlying26
attribute [go_sem] Tryz.underlying28
attribute [go_sem] Tryz.underlying55
attribute [go_sem] Tryz.underlying101
attribute [go_sem] Tryz.underlying198
attribute [go_sem] Tryz.underlying200
attribute [go_sem] Tryz.underlying106
attribute [go_sem] Tryz.underlying170
attribute [go_sem] Tryz.underlying172
attribute [go_sem] Tryz.underlying118
attribute [go_sem] Tryz.underlying60
attribute [go_sem] Tryz.underlying34
attribute [go_sem] Tryz.underlying56
attribute [go_sem] Tryz.underlying57
attribute [go_sem] Tryz.underlying58
attribute [go_sem] Tryz.underlying30
attribute [go_sem] Tryz.underlying226
attribute [go_sem] Tryz.underlying223
attribute [go_sem] Tryz.underlying231
attribute [go_sem] Tryz.underlying239
attribute [go_sem] Tryz.underlying238
attribute [go_sem] Tryz.underlying235
attribute [go_sem] Tryz.underlying32
@[go_sem] theorem acm:kV prog 42=some 112:=by kernel_rfl
@[go_sem] theorem ac0:kV prog 77=some 120:=by kernel_rfl
@[go_sem] theorem adK:kV prog 24=some 16:=by kernel_rfl
@[go_sem] theorem adC:kV prog 3=some 8:=by kernel_rfl
@[go_sem] theorem adO:kV prog 40=some 56:=by kernel_rfl
theorem fe {f:FuncId} {fn:Func} {code:Code} {args:List aL} {own:Bool} {res:List aL} {n:Nat} {rs:List ResultVar} (hf:Tryz.prog.funcs[f]? = some fn) (hn:fn.ntmps=n) (hr:fn.results=rs.toArray) (h:(∀d ∈ args,Wf d.1 d.2)->AC prog AF n code (KR AF rs own res) ⟨iE 0 args,[]⟩) (hname:(fn.name == "runtime.NumGoroutine")=false:=by rfl) (hb:fn.body=some code:=by rfl) (hna:args.length <= n:=by simp):Fn prog f args own res:=Uw bK bA hf hname hb n hn rs hr hna h
abbrev Arg (w:World) (v:Value) (d:aL):Prop:=∃fp,bV w v d fp
theorem Arg.sl {w:World} {v:Value} {a:Ty} {l:List a.den} (h:Has (Rp.slice a.rp a.pos) w [v] l):Arg w v ⟨.slice a,l⟩:=by
 obtain⟨fp,h⟩:=h
 exact⟨fp,[v],.inr ⟨rfl,rfl⟩,h⟩
theorem Arg.agg {w:World} {cs:List Value} {t:Ty} {x:t.den} (ht:t.isAgg=true) (h:Has t.rp w cs x):Arg w (.agg cs.toArray) ⟨t,x⟩:=by
 obtain⟨fp,h⟩:=h
 exact⟨fp,cs,.inl ⟨ht,rfl⟩,h⟩
section
variable {P:Program} {f:FuncId} {args:List aL} {own:Bool} {t:Ty} {x:t.den} {w:World} {vs:List Value}
theorem Fn.go (h:Fn P f args own [⟨t,x⟩]) (ha:aA (Arg w) vs args) (hg:Gw P w:=by exact Gw.none ai):Calls P f vs.toArray w fun e w'=>Below w.heap.size w w'/\∃v,e=.returned v/\∃fp,bV w' v ⟨t,x⟩ fp/\(own=true->kF w.heap.size w' fp):=by
 refine (h.2 w vs (fun _=>True) hg (ha.mono fun v d _ ⟨fp,h⟩=>⟨fp,h,fun _ _=>trivial⟩)).mono fun e w' ⟨hb,v,he,hr⟩=>⟨hb,v,he,?_⟩
 obtain⟨fp,h1,h2,_⟩:=hr
 exact⟨fp,h1,h2⟩
theorem Fn.bool {b:Bool} (h:Fn P f args own [⟨.bool,b⟩]) (ha:aA (Arg w) vs args) (hg:Gw P w:=by exact Gw.none ai):Calls P f vs.toArray w (Post (fun v w'=>v=.bool b/\Below w.heap.size w w')):=by
 refine (h.go ha hg).mono fun e w' ⟨hb,v,he,fp,⟨cs,hp,hr⟩,_⟩=>⟨v,he,?_,hb⟩
 rcases hp with ⟨h,_⟩|⟨_,rfl⟩
 ·cases h
 ·exact List.cons.inj hr.1 |>.1
end
end DW

section
open Go.RowKit
section
variable {H:Type} {enc:TypeId × Value->H} {w:World}
theorem sY.u8 {P:Program} {t:TypeId} (ht:P.underlying t=some (.int .u8)):sY enc P w t DW.RpU8:=fun fuel cs x h=>by
 obtain⟨n,rfl,_,wn⟩:=DataW.trod_int ht h
 have:0<=n/\n<=255:=by simpa [Lit.wf,IntKind.min,IntKind.max,IntKind.signed,IntKind.bits] using wn
 exact⟨n,[],rfl,rfl,this.1,this.2⟩
theorem oU8S:sY enc prog w 22 (Rp.slice DW.RpU8 Nat.one_pos):=sY.slice Tryz.underlying22 ai (sY.u8 Tryz.underlying5)
end
end

namespace DW
open Go.RowKit
theorem oL (l:List Int) (i:Int) (h0:0<=i):Fn prog 233 [⟨aq,l⟩,⟨.int,i⟩] false [⟨.int,ni l i.toNat⟩]:=by
 refine fe func233 ntmps233 results233 fun hwf=>?_
 refine Nz ?_
 refine ao (fun hc=>?_) (fun hc=>?_)
 ·refine Nz ?_
  exact⟨h0,hc⟩
 ·refine Nz ?_
  exact (WG J).symm
def mE (a b:Int):Int:=if a < b then -1 else if b < a then 1 else 0
def rB (a b:List Int):Nat->Int
 | 0=>0
 | k+1=>if ni a k=ni b k then rB a b k else mE (ni a k) (ni b k)
def tB (a b:List Int):Int:=if a.length=b.length then rB a b a.length else mE a.length b.length
theorem Fm {a b:List Int} {i:Int} (h:0<=i):rB a b (i+1).toNat=if ni a i.toNat=ni b i.toNat then rB a b i.toNat else mE (ni a i.toNat) (ni b i.toNat):=by
 rw[show (i+1).toNat=i.toNat+1 from J]; rfl
theorem tg (a b:List Int):Fn prog 352 [⟨aq,a⟩,⟨aq,b⟩] false [⟨.int,tB a b⟩]:=by
 refine fe func352 ntmps352 results352 fun hwf=>?_
 have ha:a.length<=9223372036854775807:=(hwf ⟨aq,a⟩ ah).1
 refine Nz ?_
 refine sG (fun h=>?_) (fun h=>?_)
 ·have hc:tB a b=mE a.length b.length:=if_neg J
  refine Nz ?_
  refine ao (fun h2=>?_) (fun h2=>?_)
  ·refine Nz ?_
   rw[hc,mE,if_pos h2]
  ·refine Nz ?_
   rw[hc,mE,if_neg h2,if_pos J]
 ·have hc:tB a b=rB a b a.length:=if_pos J
  refine Nz ?_
  refine⟨by constructor<;>omega,?_⟩
  refine aF.intro _ _ _ (fun i:Int=>⟨[(0,.sl .int a),(1,.sl .int b),(5,.sc (.int .i64 i))],[]⟩) (fun i=>-1<=i/\i < a.length/\rB a b (i+1).toNat=tB a b) (fun i=>(i+1).toNat) (a.length - 1) ?_ ⟨J,J,by rw[hc]; congr 1; omega⟩ ?_
  ·exact WK
  ·rintro i ⟨h1,h2,h3⟩
   refine Nz ?_
   refine ao (fun h4=>?_) (fun h4=>?_)
   ·rw[Fm h4] at h3
    refine Nz ?_
    refine⟨h4,h2,h4,J,by kernel_rfl,?_⟩
    refine ao (fun h5=>?_) (fun h5=>?_)
    ·refine Nz ?_
     rw[<-h3,if_neg J,mE,if_pos h5]
    ·refine Nz ?_
     refine⟨h4,h2,h4,J,by kernel_rfl,?_⟩
     refine ao (fun h6=>?_) (fun h6=>?_)
     ·refine Nz ?_
      rw[<-h3,if_neg J,mE,if_neg h5,if_pos h6]
     ·rw[if_pos J] at h3
      refine Nz ?_
      refine⟨by constructor<;>omega,az.mk (i - 1) ?_ ⟨J,J,by rw[<-h3]; congr 1; omega⟩ J⟩
      exact WK
   ·refine Nz ?_
    rw[<-h3,show (i+1).toNat=0 from J]; rfl
theorem H7 (a:Int):Fn prog 290 [⟨.int,a⟩] false [⟨.bool,false⟩]:=by
 refine fe func290 ntmps290 results290 fun hwf=>?_
 try simp (maxSteps:=9^9) only[go_sem]
theorem BI (a b:Int):Fn prog 292 [⟨.int,a⟩,⟨.int,b⟩] false [⟨.int,mE a b⟩]:=by
 refine fe func292 ntmps292 results292 fun hwf=>?_
 refine Cz (H7 a) ?_
 refine cw (H7 b) ?_
 refine Nz ?_
 refine ao (fun h=>?_) (fun h=>?_)
 ·refine Nz ?_
  rw[mE,if_pos h]
 ·refine Nz ?_
  refine ao (fun h2=>?_) (fun h2=>?_)
  ·refine Nz ?_
   rw[mE,if_neg h,if_pos h2]
  ·refine Nz ?_
   rw[mE,if_neg h,if_neg h2]
theorem nm (a b:List Int):Fn prog 226 [⟨aq,a⟩,⟨aq,b⟩] false [⟨.int,tB a b⟩]:=by
 refine fe func226 ntmps226 results226 fun hwf=>?_
 have ha:a.length<=9223372036854775807:=(hwf ⟨aq,a⟩ ah).1
 refine Nz ?_
 refine sG (fun h=>?_) (fun h=>?_)
 ·have hc:tB a b=mE a.length b.length:=if_neg J
  refine Bz (BI a.length b.length) ?_
  exact hc.symm
 ·have hc:tB a b=rB a b a.length:=if_pos J
  refine Nz ?_
  refine⟨by constructor<;>omega,?_⟩
  refine aF.intro _ _ _ (fun i:Int=>⟨[(0,.sl .int a),(1,.sl .int b),(5,.sc (.int .i64 i))],[]⟩) (fun i=>-1<=i/\i < a.length/\rB a b (i+1).toNat=tB a b) (fun i=>(i+1).toNat) (a.length - 1) ?_ ⟨J,J,by rw[hc]; congr 1; omega⟩ ?_
  ·exact WK
  ·rintro i ⟨h1,h2,h3⟩
   refine Nz ?_
   refine ao (fun h4=>?_) (fun h4=>?_)
   ·rw[Fm h4] at h3
    refine Nz ?_
    refine⟨h4,h2,h4,J,by kernel_rfl,?_⟩
    refine sG (fun h5=>?_) (fun h5=>?_)
    ·rw[if_neg h5] at h3
     refine Nz ?_
     refine⟨h4,h2,h4,J,?_⟩
     refine Bz (BI (ni a i.toNat) (ni b i.toNat)) ?_
     exact⟨by kernel_rfl,h3⟩
    ·rw[if_pos h5] at h3
     refine Nz ?_
     refine⟨by constructor<;>omega,az.mk (i - 1) ?_ ⟨J,J,by rw[<-h3]; congr 1; omega⟩ J⟩
     exact WK
   ·refine Nz ?_
    rw[<-h3,show (i+1).toNat=0 from J]; rfl
def mh (l:List Int):Nat->Nat
 | 0=>0
 | n+1=>if ni l n=0 then mh l n else n+1
def pf (l:List Int):List Int:=l.take (mh l l.length)
theorem CQ {l:List Int} {i:Int} (h:0 < i):mh l i.toNat=if ni l (i - 1).toNat=0 then mh l (i - 1).toNat else i.toNat:=by
 rw[show i.toNat=(i - 1).toNat+1 from J]; rfl
theorem nL (l:List Int):Fn prog 234 [⟨aq,l⟩] false [⟨aq,pf l⟩]:=by
 refine fe func234 ntmps234 results234 fun hwf=>?_
 have hl:l.length<=9223372036854775807:=(hwf ⟨aq,l⟩ ah).1
 refine Nz ?_
 refine aF.intro _ _ _ (fun i:Int=>⟨[(0,.sl .int l),(3,.sc (.int .i64 i))],[]⟩) (fun i=>0<=i/\i<=l.length/\mh l i.toNat=mh l l.length) (fun i=>i.toNat) l.length ?_ ⟨J,J,by congr 1⟩ ?_
 ·exact WK
 ·rintro i ⟨h1,h2,h3⟩
  refine Nz ?_
  refine lv (fun h4=>?_) (fun h4=>?_)
  ·rw[CQ h4] at h3
   refine Nz ?_
   refine⟨by constructor<;>omega,J,J,?_⟩
   refine ao (fun h5=>?_) (fun h5=>?_)
   ·rw[if_pos h5] at h3
    refine Nz ?_
    refine⟨by constructor<;>omega,az.mk (i - 1) ?_ ⟨J,J,h3⟩ J⟩
    exact WK
   ·rw[if_neg h5] at h3
    refine Nz ?_
    refine⟨h1,h2,?_⟩
    rw[h3]; rfl
  ·refine Nz ?_
   refine⟨h1,h2,?_⟩
   rw[pf,<-h3,show i.toNat=0 from J]; rfl
theorem jo (l:List Int):Fn prog 354 [⟨aq,l⟩] false [⟨aq,pf l⟩]:=by
 refine fe func354 ntmps354 results354 fun hwf=>?_
 have hl:l.length<=9223372036854775807:=(hwf ⟨aq,l⟩ ah).1
 refine Nz ?_
 refine aF.intro _ _ _ (fun i:Int=>⟨[(0,.sl .int l),(3,.sc (.int .i64 i))],[]⟩) (fun i=>0<=i/\i<=l.length/\mh l i.toNat=mh l l.length) (fun i=>i.toNat) l.length ?_ ⟨J,J,by congr 1⟩ ?_
 ·exact WK
 ·rintro i ⟨h1,h2,h3⟩
  refine Nz ?_
  refine lv (fun h4=>?_) (fun h4=>?_)
  ·rw[CQ h4] at h3
   refine Nz ?_
   refine⟨by constructor<;>omega,J,J,?_⟩
   refine ao (fun h5=>?_) (fun h5=>?_)
   ·rw[if_pos h5] at h3
    refine Nz ?_
    refine⟨by constructor<;>omega,az.mk (i - 1) ?_ ⟨J,J,h3⟩ J⟩
    exact WK
   ·rw[if_neg h5] at h3
    refine Nz ?_
    refine⟨h1,h2,?_⟩
    rw[h3]; rfl
  ·refine Nz ?_
   refine⟨h1,h2,?_⟩
   rw[pf,<-h3,show i.toNat=0 from J]; rfl
def aB (n:Nat):List Int:=if h:n=0 then [] else ((n % 1000000000:Nat):Int) :: aB (n / 1000000000)
decreasing_by omega
theorem dx:aB 0=[]:=by rw[aB]; rfl
theorem gu {n:Nat} (h:0 < n):aB n=((n % 1000000000:Nat):Int) :: aB (n / 1000000000):=by rw[aB,dif_neg J]
theorem UG (k n:Nat) (h:n < 1000000000 ^ k):(aB n).length<=k:=by
 induction k generalizing n with
 | zero=>rw[show n=0 by simpa using h,dx]; simp
 | succ k ih =>
  by_cases h0:n=0
  ·subst h0; rw[dx]; simp
  ·rw[gu J]
   have:=ih (n / 1000000000) (by rw[div_lt_iff_lt_mul J]; rwa [Nat.pow_succ] at h)
   simp; omega
theorem mU {n:Int} (h:n<=9223372036854775808):(aB n.toNat).length<=3:=UG 3 _ J
theorem FC {n:Int} (h:0 < n):aB n.toNat=n % 1000000000 :: aB (n / 1000000000).toNat:=by
 rw[gu J,show n.toNat / 1000000000=(n / 1000000000).toNat from J,show ((n.toNat % 1000000000:Nat):Int)=n % 1000000000 from J]
theorem jG (n:Int):Fn prog 312 [⟨.int,n⟩] true [⟨aq,aB n.toNat⟩]:=by
 refine fe func312 ntmps312 results312 fun hwf=>?_
 have hn:bU n:=hwf ⟨.int,n⟩ ah
 have hl:=mU (n:=n) (by have:=hn.2; omega)
 refine Nz ?_
 refine aF.intro _ _ _ (fun x:Int × List Int=>⟨[(0,.sc (.int .i64 x.1)),(3,.row 0 0)],[(0,.row 3 .int 0 true x.2)]⟩) (fun x=>aB n.toNat=x.2++aB x.1.toNat) (fun x=>x.1.toNat) (n,[]) ?_ rfl ?_
 ·exact WK
 ·rintro⟨k,dn⟩ h1
  have hdl:=congrArg length h1
  rw[length_append] at hdl
  simp only at h1 hdl
  refine Nz ?_
  refine ao (fun h2=>?_) (fun h2=>?_)
  ·rw[FC h2] at h1
   refine Nz ?_
   refine fR.pos J ae ?_
   refine Nz ?_
   refine⟨J,J,lF.pos J ae ?_⟩
   refine Nz ?_
   refine az.mk (k / 1000000000,dn++[k % 1000000000]) ?_ (by simp[h1]) (by simp only; omega)
   exact WK
  ·have h3:aB k.toNat=[]:=by rw[show k.toNat=0 from J,dx]
   rw[h3,List.append_nil] at h1
   refine Nz ?_
   exact h1.symm
theorem iP (n:Int):Fn prog 228 [⟨.int,n⟩] true [⟨aq,aB n.toNat⟩]:=by
 refine fe func228 ntmps228 results228 fun hwf=>?_
 have hn:bU n:=hwf ⟨.int,n⟩ ah
 have hl:=mU (n:=n) (by have:=hn.2; omega)
 refine Nz ?_
 refine aF.intro _ _ _ (fun x:Int × List Int=>⟨[(0,.sc (.int .i64 x.1)),(3,.row 0 0)],[(0,.row 3 .int 0 true x.2)]⟩) (fun x=>aB n.toNat=x.2++aB x.1.toNat) (fun x=>x.1.toNat) (n,[]) ?_ rfl ?_
 ·exact WK
 ·rintro⟨k,dn⟩ h1
  have hdl:=congrArg length h1
  rw[length_append] at hdl
  simp only at h1 hdl
  refine Nz ?_
  refine ao (fun h2=>?_) (fun h2=>?_)
  ·rw[FC h2] at h1
   refine Nz ?_
   refine fR.pos J ae ?_
   refine Nz ?_
   refine⟨J,J,lF.pos J ae ?_⟩
   refine Nz ?_
   refine az.mk (k / 1000000000,dn++[k % 1000000000]) ?_ (by simp[h1]) (by simp only; omega)
   exact WK
  ·have h3:aB k.toNat=[]:=by rw[show k.toNat=0 from J,dx]
   rw[h3,List.append_nil] at h1
   refine Nz ?_
   exact h1.symm
def jL {t:Ty} (p:t.den->Bool) (l:List t.den):Int:=match l.findIdx? p with|some i=>i|none=>-1
theorem jy {t:Ty} {p:t.den->Bool} {l:List t.den} {i:Nat} (hi:i < l.length) (h:p (nth l i)=true) (hb:∀j < i,p (nth l j)=false):jL p l=i:=by
 have:l.findIdx? p=some i:=by
  rw[List.findIdx?_eq_some_iff_getElem]
  refine⟨hi,by rw[<-aM hi]; exact h,fun j hj=>?_⟩
  rw[<-aM J]; simp[hb j hj]
 rw[jL,this]
theorem fP {t:Ty} {p:t.den->Bool} {l:List t.den} (hb:∀j < l.length,p (nth l j)=false):jL p l=-1:=by
 have:l.findIdx? p=none:=by
  rw[List.findIdx?_eq_none_iff]
  intro x hx
  obtain⟨j,hj,rfl⟩:=List.getElem_of_mem hx
  rw[<-aM hj]; exact hb j hj
 rw[jL,this]
theorem lq {t:Ty} {p:t.den->Bool} {l:List t.den}:decide (0<=jL p l)=l.any p:=by
 unfold jL
 cases h:l.findIdx? p with
 | none =>
  rw[List.findIdx?_eq_none_iff] at h
  have:l.any p=false:=by rw[any_eq_false]; intro x hx; simp[h x hx]
  rw[this]; rfl
 | some i =>
  rw[List.findIdx?_eq_some_iff_getElem] at h
  obtain⟨hi,hp,_⟩:=h
  have:l.any p=true:=any_eq_true.2 ⟨_,getElem_mem hi,hp⟩
  rw[this]; simp
theorem Au (F:FuncId) (p:Int->Bool) (hF:∀x:Int,Fn prog F [⟨.int,x⟩] false [⟨.bool,p x⟩]) (l:List Int):Fn prog 235 [⟨.slice (.int),l⟩,⟨.dr (.fn F),()⟩] false [⟨.int,jL (t:=.int) p l⟩]:=by
 refine fe func235 ntmps235 results235 fun hwf=>?_
 have hl:l.length<=9223372036854775807:=(hwf ⟨.slice (.int),l⟩ ah).1
 refine Nz ?_
 refine aF.intro _ _ _ (fun i:Int=>⟨[(0,.sl (.int) l),(1,.sc (.func (.func F) #[] #[])),(7,.sc (.int .i64 l.length)),(8,.sc (.int .i64 i))],[]⟩) (fun i=>0<=i/\∀j < i.toNat,j < l.length->p (nth (t:=.int) l j)=false) (fun i=>(l.length - i).toNat) 0 ?_ ⟨J,fun j h=>by simp at h⟩ ?_
 ·exact WK
 ·rintro i ⟨h1,h2⟩
  refine Nz ?_
  refine ao ?_ ?_<;>intro h3
  ·refine Nz ?_
   refine⟨h1,h3,?_⟩
   refine Bz (hF (ni l i.toNat)) ?_
   refine ig (fun h4=>?_) (fun h4=>?_)
   ·refine Nz ?_
    exact (jy J h4 (fun j hj=>h2 j hj J)).symm ▸ J
   ·refine Nz ?_
    refine⟨by constructor<;>omega,az.mk (i+1) ?_ ⟨J,fun j hj hl=>?_⟩ J⟩
    ·exact WK
    ·by_cases hj2:j < i.toNat
     ·exact h2 j hj2 hl
     ·rw[show j=i.toNat from J]; exact h4
  ·refine Nz ?_
   exact (fP fun j hj=>h2 j J hj).symm
theorem gm (F:FuncId) (p:Int->Bool) (hF:∀x:Int,Fn prog F [⟨.int,x⟩] false [⟨.bool,p x⟩]) (l:List Int):Fn prog 156 [⟨.slice (.int),l⟩,⟨.dr (.fn F),()⟩] false [⟨.bool,l.any p⟩]:=by
 refine fe func156 ntmps156 results156 fun hwf=>?_
 refine Bz (Au F p hF l) ?_
 exact lq
theorem vd (n a b:Int):Fn prog 246 [⟨.int,n⟩,⟨.int,a⟩,⟨.int,b⟩] false [⟨.bool,decide (a<=n/\n<=b)⟩]:=by
 refine fe func246 ntmps246 results246 fun hwf=>?_
 refine Nz ?_
 refine lv (fun h=>?_) (fun h=>?_)
 ·refine Nz ?_
  simp[h]
 ·refine Nz ?_
  simp[h]
theorem dH (n a b:Int):Fn prog 63 [⟨.int,n⟩,⟨.int,a⟩,⟨.int,b⟩] false [⟨.bool,decide (a<=n/\n<=b)⟩]:=by
 refine fe func63 ntmps63 results63 fun hwf=>?_
 refine Nz ?_
 refine lv (fun h=>?_) (fun h=>?_)
 ·refine Nz ?_
  simp[h]
 ·refine Nz ?_
  simp[h]
def Kr (p:Prop):Bool:=@decide p (Classical.propDecidable p)
theorem jr {p:Prop} (h:p):Kr p=true:=@aj _ (Classical.propDecidable p) h
theorem jb {p:Prop} (h:¬ p):Kr p=false:=@ak _ (Classical.propDecidable p) h
def Ew (d:Int):Prop:=0<=d/\d<=999999999
def ym (l:List Int):Prop:=(∀d ∈ l,Ew d)/\l.length<=60/\(l.length=0\/ni l (l.length - 1) ≠ 0)
def rD (l:List Int):Bool:=Kr (ym l)
theorem gZ (l:List Int):Fn prog 305 [⟨aq,l⟩] false [⟨.bool,rD l⟩]:=by
 refine fe func305 ntmps305 results305 fun hwf=>?_
 have hl:l.length<=9223372036854775807:=(hwf ⟨aq,l⟩ ah).1
 refine Nz ?_
 refine aF.intro _ _ _ (fun i:Int=>⟨[(0,.sl .int l),(5,.sl .int l),(6,.sc (.int .i64 l.length)),(7,.sc (.int .i64 i))],[]⟩) (fun i=>0<=i/\∀j < i.toNat,j < l.length->Ew (ni l j)) (fun i=>(l.length - i).toNat) 0 ?_ ⟨J,fun j h=>by simp at h⟩ ?_
 ·exact WK
 ·rintro i ⟨h1,h2⟩
  refine Nz ?_
  refine ao ?_ ?_<;>intro h3
  ·refine Nz ?_
   refine⟨h1,h3,?_⟩
   refine Bz (vd (ni l i.toNat) 0 999999999) ?_
   refine sG (fun h4=>?_) (fun h4=>?_)
   ·refine Nz ?_
    refine (jb fun hok=>h4 ?_).symm
    rw[cd J]
    exact hok.1 _ (getElem_mem J)
   ·refine Nz ?_
    refine⟨by constructor<;>omega,az.mk (i+1) ?_ ⟨J,fun j hj hl=>?_⟩ J⟩
    ·exact WK
    ·by_cases hj2:j < i.toNat
     ·exact h2 j hj2 hl
     ·rw[show j=i.toNat from J]; exact h4
  ·have hall:∀d ∈ l,Ew d:=fun d hd=>by
    obtain⟨j,hj,rfl⟩:=List.getElem_of_mem hd
    rw[<-cd hj]; exact h2 j J hj
   refine Nz ?_
   refine lv (fun h4=>?_) (fun h4=>?_)
   ·refine Nz ?_
    refine tu (fun h5=>?_) (fun h5=>?_)
    ·refine Nz ?_
     refine⟨by constructor<;>omega,J,J,?_⟩
     by_cases h6:ni l (l.length - 1)=0
     ·refine (Eq.trans ?_ (jb fun hok=>(hok.2.2.elim J fun h=>h h6)).symm)
      rw[show ((l.length:Int) - 1).toNat=l.length - 1 from J]; simp[h6]
     ·refine (Eq.trans ?_ (jr ⟨hall,J,.inr h6⟩).symm)
      rw[show ((l.length:Int) - 1).toNat=l.length - 1 from J]; simp[h6]
    ·refine Nz ?_
     exact (jr ⟨hall,J,.inl J⟩).symm
   ·refine Nz ?_
    refine (jb fun hok=>?_).symm
    have:=hok.2.1; omega
theorem QV (x:Int):Fn prog 239 [⟨.int,x⟩] false [⟨.bool,!decide (0<=x/\x<=999999999)⟩]:=by
 refine fe func239 ntmps239 results239 fun hwf=>?_
 refine Sz ?_
 refine cw (dH x 0 999999999) ?_
 try simp (maxSteps:=9^9) only[go_sem]
theorem iY (l:List Int):Fn prog 164 [⟨aq,l⟩] false [⟨.bool,rD l⟩]:=by
 refine fe func164 ntmps164 results164 fun hwf=>?_
 have hl:l.length<=9223372036854775807:=(hwf ⟨aq,l⟩ ah).1
 have hany:l.any (fun x=>!decide (0<=x/\x<=999999999))=false->∀d ∈ l,Ew d:=fun h d hd=>by
  rw[any_eq_false] at h
  have:=h d hd
  show 0<=d/\d<=999999999
  simpa using this
 have hany2:l.any (fun x=>!decide (0<=x/\x<=999999999))=true->¬ ∀d ∈ l,Ew d:=fun h hall=>by
  obtain⟨d,hd,h⟩:=any_eq_true.1 h
  have:=hall d hd
  simp[this.1,this.2] at h
 refine Nz ?_
 refine tu (fun h=>?_) (fun h=>?_)
 ·refine Bz (gm _ _ QV l) ?_
  refine ig (fun h2=>?_) (fun h2=>?_)
  ·refine Nz ?_
   exact (jb fun hok=>hany2 h2 hok.1).symm
  ·have hall:=hany h2
   refine Nz ?_
   refine tu (fun h5=>?_) (fun h5=>?_)
   ·refine Nz ?_
    refine⟨by constructor<;>omega,J,J,?_⟩
    by_cases h6:ni l (l.length - 1)=0
    ·refine (Eq.trans ?_ (jb fun hok=>(hok.2.2.elim J fun h=>h h6)).symm)
     rw[show ((l.length:Int) - 1).toNat=l.length - 1 from J]; simp[h6]
    ·refine (Eq.trans ?_ (jr ⟨hall,J,.inr h6⟩).symm)
     rw[show ((l.length:Int) - 1).toNat=l.length - 1 from J]; simp[h6]
   ·refine Nz ?_
    exact (jr ⟨hall,J,.inl J⟩).symm
 ·refine Nz ?_
  refine (jb fun hok=>?_).symm
  have:=hok.2.1; omega
def pw (k:Nat):Nat:=1000000000 ^ k
theorem gz:pw 0=1:=rfl
theorem Zu:pw 1=1000000000:=rfl
theorem eA (k:Nat):pw (k+1)=1000000000 * pw k:=by rw[pw,Nat.pow_succ,mul_comm]; rfl
theorem eU (k:Nat):0 < pw k:=Nat.pow_pos ae
theorem JN (j k:Nat):pw (j+k)=pw j * pw k:=pow_add ..
theorem BZ {j k:Nat} (h:j<=k):pw j<=pw k:=pow_le_pow_right ae h
theorem abZ {j k:Nat} (h:j < k):pw j < pw k:=Nat.pow_lt_pow_right ae h
theorem FB {j k:Nat}:pw j < pw k ↔ j < k:=⟨fun h=>by
 rcases lt_or_ge j k with h1|h1
 ·exact h1
 ·have:=BZ h1; omega,abZ⟩
def dg (n i:Nat):Nat:=n / pw i % 1000000000
theorem eQ (n i:Nat):dg n i < 1000000000:=mod_lt _ ae
theorem El (n:Nat):dg n 0=n % 1000000000:=by rw[dg,gz,div_one]
theorem dg_succ (n i:Nat):dg n (i+1)=dg (n / 1000000000) i:=by rw[dg,dg,eA,Nat.div_div_eq_div_mul]
theorem my {n i:Nat} (h:n < pw i):dg n i=0:=by rw[dg,div_eq_of_lt h]
theorem ju (n i:Nat):n % pw (i+1)=n % pw i+pw i * dg n i:=by
 rw[eA,mul_comm,Nat.mod_mul]; rfl
theorem ko (n i:Nat):n / pw i=1000000000 * (n / pw (i+1))+dg n i:=by
 rw[eA,mul_comm 1000000000 (pw i),<-Nat.div_div_eq_div_mul]
 have:=Nat.div_add_mod (n / pw i) 1000000000
 unfold dg; omega
theorem uN {n i:Nat} (h:n < pw (i+1)):dg n i=n / pw i:=by
 have:=ko n i
 rw[div_eq_of_lt h] at this
 omega
def nl (n:Nat):Nat:=(aB n).length
theorem jK:nl 0=0:=by rw[nl,dx]; rfl
theorem Ie {n:Nat} (h:0 < n):nl n=nl (n / 1000000000)+1:=by rw[nl,gu h]; rfl
theorem ef:∀n:Nat,n < pw (nl n):=by
 intro n
 induction n using strongRecOn with
 | _ n ih =>
  by_cases h:n=0
  ·subst h; rw[jK]; decide
  ·rw[Ie J,eA]
   have:=ih (n / 1000000000) J
   omega
theorem uS:∀n:Nat,n ≠ 0->0 < nl n/\pw (nl n - 1)<=n:=by
 intro n
 induction n using strongRecOn with
 | _ n ih =>
  intro h
  rw[Ie J,Nat.add_sub_cancel]
  refine⟨J,?_⟩
  by_cases h1:n / 1000000000=0
  ·rw[h1,jK,gz]; omega
  ·obtain⟨h2,h3⟩:=ih (n / 1000000000) J h1
   rw[show nl (n / 1000000000)=nl (n / 1000000000) - 1+1 from J,eA]
   omega
theorem dA {n k:Nat}:nl n<=k ↔ n < pw k:=by
 constructor
 ·intro h; exact lt_of_lt_of_le (ef n) (BZ h)
 ·intro h
  by_cases h0:n=0
  ·subst h0; rw[jK]; omega
  ·obtain⟨h1,h2⟩:=uS n h0
   have:=FB.1 (lt_of_le_of_lt h2 h)
   omega
theorem jQ {n k:Nat}:k < nl n ↔ pw k<=n:=by
 have:=dA (n:=n) (k:=k); omega
theorem iM {m n:Nat} (h:m<=n):nl m<=nl n:=dA.2 (lt_of_le_of_lt h (ef n))
theorem dz {n:Nat}:nl n=0 ↔ n=0:=by
 constructor
 ·intro h; by_cases h0:n=0
  ·exact h0
  ·have:=(uS n h0).1; omega
 ·rintro rfl; exact jK
theorem pF (a b:Nat):nl (a * b)<=nl a+nl b:=by
 rw[dA,JN]
 by_cases h:b=0
 ·subst h; rw[Nat.mul_zero]; exact mul_pos (eU _) (eU _)
 ·exact Nat.mul_lt_mul_of_lt_of_le (ef a) (le_of_lt (ef b)) (eU _)
theorem CV (a b:Nat):nl (a+b)<=max (nl a) (nl b)+1:=by
 rw[dA,eA]
 have h1:=lt_of_lt_of_le (ef a) (BZ (Nat.le_max_left (nl a) (nl b)))
 have h2:=lt_of_lt_of_le (ef b) (BZ (Nat.le_max_right (nl a) (nl b)))
 omega
theorem gO (n:Nat):(aB n).length=nl n:=rfl
theorem se (d:Int) (l:List Int):ni (d :: l) 0=d:=rfl
theorem sk (d:Int) (l:List Int) (i:Nat):ni (d :: l) (i+1)=ni l i:=rfl
theorem Sp (i:Nat):ni [] i=0:=rfl
theorem qP:∀(i n:Nat),ni (aB n) i=(dg n i:Nat):=by
 intro i
 induction i with
 | zero =>
  intro n
  by_cases h:n=0
  ·subst h; rw[dx]; rfl
  ·rw[gu J,se,El]
 | succ i ih =>
  intro n
  by_cases h:n=0
  ·subst h; rw[dx,Sp,my (eU _)]; rfl
  ·rw[gu J,sk,ih,dg_succ]
theorem tw {l m:List Int} (hl:l.length=m.length) (h:∀i < l.length,ni l i=ni m i):l=m:=by
 apply List.ext_getElem hl
 intro i h1 h2
 rw[<-cd h1,<-cd h2]; exact h i h1
def nO (n k:Nat):List Int:=(List.range k).map fun i=>((dg n i:Nat):Int)
theorem eS (n k:Nat):(nO n k).length=k:=by simp[nO]
theorem iR (n k:Nat):nO n (k+1)=nO n k++[((dg n k:Nat):Int)]:=by simp[nO,List.range_succ]
theorem w8 {n k i:Nat} (h:i < k):ni (nO n k) i=(dg n i:Nat):=by
 rw[cd (by rw[eS]; exact h)]; simp[nO]
theorem Aq (n:Nat):aB n=nO n (nl n):=by
 refine tw (by rw[eS]; rfl) fun i hi=>?_
 rw[qP,w8 (show i < nl n from hi)]
theorem Jt {n k:Nat} (h:n < pw k) (h2:k=0\/pw (k - 1)<=n):nO n k=aB n:=by
 have:nl n=k:=by
  have h1:=dA.2 h
  rcases h2 with h2|h2
  ·omega
  ·have:=jQ.2 h2; omega
 rw[Aq,this]
theorem UI {l:List Int} {m:Nat}:∀n:Nat,m<=n->(∀i,m<=i->i < n->ni l i=0)->(m=0\/ni l (m - 1) ≠ 0)->mh l n=m:=by
 intro n
 induction n with
 | zero =>
  intro h _ _
  have:m=0:=J
  subst this; rfl
 | succ n ih =>
  intro h h1 h2
  rcases lt_or_ge n m with h3|h3
  ·have:m=n+1:=J
   subst this
   rw[mh,if_neg]
   rcases h2 with h2|h2
   ·omega
   ·exact h2
  ·rw[mh,if_pos (h1 n h3 J)]
   exact ih h3 (fun i a b=>h1 i a J) h2
theorem sP {n k:Nat} (h:n < pw k):pf (nO n k)=aB n:=by
 have hk:=dA.2 h
 have ht:mh (nO n k) k=nl n:=by
  refine UI k hk (fun i h1 h2=>?_) ?_
  ·rw[w8 h2,my (lt_of_lt_of_le (ef n) (BZ h1))]; rfl
  ·by_cases h0:n=0
   ·exact .inl (dz.2 h0)
   ·obtain⟨h1,h2⟩:=uS n h0
    refine .inr ?_
    rw[w8 J,uN (by rw[show nl n - 1+1=nl n from J]; exact ef n)]
    have:=Nat.div_pos h2 (eU _)
    omega
 rw[pf,eS,ht]
 refine tw (by rw[length_take,eS,gO]; omega) fun i hi=>?_
 have hi2:i < nl n:=by rw[length_take,eS] at hi; omega
 rw[qP,cd hi,List.getElem_take,<-cd (by rw[eS]; omega),w8 J]
theorem vD (n:Nat):pf (aB n)=aB n:=by
 have:=sP (ef n); rw[<-Aq] at this; exact this
def val:List Int->Nat
 | []=>0
 | d :: l=>d.toNat+1000000000 * val l
def bN (l:List Int):Prop:=∀d ∈ l,Ew d
theorem E8 (n:Nat):bN (aB n):=by
 rw[Aq]; intro d hd
 simp only[nO,mem_map] at hd
 obtain⟨i,_,rfl⟩:=hd
 have:=eQ n i
 constructor<;>omega
theorem Em {l:List Int} (h:bN l) (i:Nat):0<=ni l i/\ni l i<=999999999:=by
 by_cases hi:i < l.length
 ·rw[cd hi]; exact h _ (getElem_mem hi)
 ·rw[WG J]; omega
theorem An {l:List Int} (h:bN l) (i:Nat) {d:Int} (h1:0<=d) (h2:d<=999999999):bN (l.set i d):=by
 intro x hx
 rcases List.mem_or_eq_of_mem_set hx with hx|rfl
 ·exact h x hx
 ·exact⟨h1,h2⟩
theorem T5 {l m:List Int} (h:bN l) (h':bN m):bN (l++m):=fun d hd=>(List.mem_append.1 hd).elim (h d) (h' d)
theorem Uo {d:Int} (h1:0<=d) (h2:d<=999999999):bN [d]:=fun x hx=>by rw[List.mem_singleton.1 hx]; exact⟨h1,h2⟩
theorem oV (n:Nat):bN (replicate n 0):=fun d hd=>by rw[(List.mem_replicate.1 hd).2]; constructor<;>decide
theorem qX (n:Nat):val (replicate n 0)=0:=by
 induction n with
 | zero=>rfl
 | succ n ih=>rw[List.replicate_succ,val,ih]; rfl
theorem PS {l:List Int} (h:bN l):val l < pw l.length:=by
 induction l with
 | nil=>decide
 | cons d l ih =>
  have h1:=h d mem_cons_self
  have h2:=ih fun x hx=>h x (List.mem_cons_of_mem _ hx)
  rw[val,length_cons,eA]
  have:=h1.1; have:=h1.2
  omega
theorem wU:∀{l:List Int} (i:Nat),bN l->ni l i=(dg (val l) i:Nat)
 | [],i,_=>by rw[Sp,val,my (eU _)]; rfl
 | d :: l,0,h=>by
  have h1:=h d mem_cons_self
  have:=h1.1; have:=h1.2
  rw[se,El,val]; omega
 | d :: l,i+1,h=>by
  have h1:=h d mem_cons_self
  have:=h1.1; have:=h1.2
  rw[sk,dg_succ,val,show (d.toNat+1000000000 * val l) / 1000000000=val l from J]
  exact wU i fun x hx=>h x (List.mem_cons_of_mem _ hx)
theorem QB {l:List Int} (h:bN l):l=nO (val l) l.length :=
 tw (by rw[eS]) fun i hi=>by rw[w8 hi,wU i h]
theorem kS {l:List Int} (h:bN l):pf l=aB (val l):=by
 have:=sP (PS h)
 rw[<-QB h] at this
 exact this
theorem jW (n:Nat):val (aB n)=n:=by
 induction n using strongRecOn with
 | _ n ih =>
  by_cases h:n=0
  ·subst h; rw[dx]; rfl
  ·rw[gu J,val,ih (n / 1000000000) J]; omega
theorem Bj {m n:Nat} (h:aB m=aB n):m=n:=by rw[<-jW m,h,jW]
theorem AW {n:Nat}:aB n=[] ↔ n=0:=⟨fun h=>Bj (h.trans dx.symm),fun h=>by rw[h,dx]⟩
theorem XW (l m:List Int):val (l++m)=val l+pw l.length * val m:=by
 induction l with
 | nil=>simp[val,gz]
 | cons d l ih=>rw[List.cons_append,val,val,ih,length_cons,eA,mul_assoc]; omega
theorem yX:∀{l:List Int} {i:Nat} (d:Int),i < l.length->val (l.set i d)+pw i * (ni l i).toNat=val l+pw i * d.toNat
 | [],i,_,h=>by simp at h
 | x :: l,0,d,_=>by rw[List.set_cons_zero,val,val,gz,se]; omega
 | x :: l,i+1,d,h=>by
  have:=yX (l:=l) (i:=i) d (by simpa using h)
  rw[List.set_cons_succ,val,val,eA,sk,mul_assoc,mul_assoc]
  omega
theorem X3:val []=0:=rfl
theorem val_one (d:Int):val [d]=d.toNat:=by rw[val,X3]; omega
theorem Nb {l:List Int} (h:ym l):l=aB (val l):=by
 obtain⟨h1,_,h3⟩:=h
 have hl:=PS h1
 rw[<-Jt hl,<-QB h1]
 rcases h3 with h3|h3
 ·exact .inl h3
 ·by_cases h0:l.length=0
  ·exact .inl h0
  ·refine .inr ?_
   rw[wU _ h1,uN (by rw[show l.length - 1+1=l.length from J]; exact hl)] at h3
   rcases lt_or_ge (val l) (pw (l.length - 1)) with h4|h4
   ·rw[div_eq_of_lt h4] at h3; exact absurd rfl h3
   ·exact h4
theorem pJ {n:Nat}:ym (aB n) ↔ nl n<=60:=by
 constructor
 ·intro h; exact h.2.1
 ·intro h
  refine⟨E8 n,h,?_⟩
  by_cases h0:n=0
  ·exact .inl (dz.2 h0)
  ·obtain⟨h1,h2⟩:=uS n h0
   refine .inr ?_
   rw[gO,qP,uN (by rw[show nl n - 1+1=nl n from J]; exact ef n)]
   have:=Nat.div_pos h2 (eU _)
   omega
theorem vZ {l:List Int}:ym l ↔ ∃n,l=aB n/\nl n<=60 :=
 ⟨fun h=>⟨val l,Nb h,pJ.1 (by rw[<-Nb h]; exact h)⟩,fun⟨n,e,h⟩=>by rw[e]; exact pJ.2 h⟩
def jZ (a b:Nat):Int:=if a < b then -1 else if b < a then 1 else 0
theorem TO (a b:Nat):∀k:Nat,rB (aB a) (aB b) k=jZ (a % pw k) (b % pw k):=by
 intro k
 induction k with
 | zero=>rw[rB,gz,mod_one,mod_one]; rfl
 | succ k ih =>
  rw[rB,qP,qP,ju,ju]
  have ha:=mod_lt a (eU k)
  have hb:=mod_lt b (eU k)
  split
  ·rename_i h
   rw[ih,show dg a k=dg b k from J]
   unfold jZ
   simp only[Nat.add_lt_add_iff_right]
  ·rename_i h
   unfold mE jZ
   rcases lt_or_ge (dg a k) (dg b k) with h1|h1
   ·have:pw k * (dg a k+1)<=pw k * dg b k:=mul_le_mul_left _ h1
    rw[mul_add,Nat.mul_one] at this
    rw[if_pos J,if_pos J]
   ·have:pw k * (dg b k+1)<=pw k * dg a k:=mul_le_mul_left _ J
    rw[mul_add,Nat.mul_one] at this
    rw[if_neg J,if_pos J,if_neg J,if_pos J]
theorem Ku (a b:Nat):tB (aB a) (aB b)=jZ a b:=by
 unfold tB
 rw[gO,gO]
 split
 ·rename_i h
  rw[TO,mod_eq_of_lt (ef a),h,mod_eq_of_lt (ef b)]
 ·rename_i h
  unfold mE jZ
  rcases lt_or_ge (nl a) (nl b) with h1|h1
  ·have h2:=jQ.1 h1
   have:=ef a
   rw[if_pos J,if_pos J]
  ·have h1:nl b < nl a:=J
   have h2:=jQ.1 h1
   have:=ef b
   rw[if_neg J,if_pos J,if_neg J,if_pos J]
def jB (a b i:Nat):Nat:=(a % pw i+b % pw i) / pw i
theorem vf (a b:Nat):jB a b 0=0:=by rw[jB,gz,mod_one,mod_one]
theorem tQ (a b i:Nat):jB a b i<=1:=by
 have h:=eU i
 have h1:=mod_lt a h
 have h2:=mod_lt b h
 have:jB a b i < 2:=by rw[jB,div_lt_iff_lt_mul h]; omega
 omega
theorem NI (a b i:Nat):dg a i+dg b i+jB a b i=(a % pw (i+1)+b % pw (i+1)) / pw i:=by
 rw[ju,ju,show a % pw i+pw i * dg a i+(b % pw i+pw i * dg b i)=(a % pw i+b % pw i)+pw i * (dg a i+dg b i) by rw[mul_add]; omega,Nat.add_mul_div_left _ _ (eU i),jB]
 omega
theorem oI (a b i:Nat):(dg a i+dg b i+jB a b i) / 1000000000=jB a b (i+1):=by
 rw[NI,jB,eA,Nat.div_div_eq_div_mul,mul_comm (pw i)]
theorem N5 (n k i:Nat):dg (n+pw (i+1) * k) i=dg n i:=by
 rw[dg,dg,eA,show 1000000000 * pw i * k=pw i * (1000000000 * k) by simp only[mul_assoc,mul_left_comm],Nat.add_mul_div_left _ _ (eU i),Nat.add_mul_mod_self_left]
theorem uP (a b i:Nat):(dg a i+dg b i+jB a b i) % 1000000000=dg (a+b) i:=by
 have e:a+b=(a % pw (i+1)+b % pw (i+1))+pw (i+1) * (a / pw (i+1)+b / pw (i+1)):=by
  have h1:=mod_add_div a (pw (i+1))
  have h2:=mod_add_div b (pw (i+1))
  rw[mul_add]; omega
 rw[e,N5,NI,dg]
theorem Mc {a b i:Nat} (h1:nl a<=i) (h2:nl b<=i) (h3:jB a b i=0):a+b < pw i:=by
 rw[jB,mod_eq_of_lt (dA.1 h1),mod_eq_of_lt (dA.1 h2),Nat.div_eq_zero_iff] at h3
 have:=eU i
 omega
theorem MT {a b i:Nat} (h:i < nl a\/i < nl b\/0 < jB a b i):pw i<=a+b:=by
 rcases h with h|h|h
 ·have:=jQ.1 h; omega
 ·have:=jQ.1 h; omega
 ·have h1:=Nat.mod_le a (pw i)
  have h2:=Nat.mod_le b (pw i)
  have:pw i<=a % pw i+b % pw i:=by
   rw[jB] at h
   rcases lt_or_ge (a % pw i+b % pw i) (pw i) with h3|h3
   ·rw[div_eq_of_lt h3] at h; omega
   ·exact h3
  omega
theorem QP (b d i:Nat):dg (b+d) i+1000000000 * jB b d (i+1)=dg b i+dg d i+jB b d i:=by
 rw[<-uP,<-oI]
 exact mod_add_div _ _
theorem Gf {a b i k:Nat} (h1:a < pw i) (h2:b < pw k):a * b < pw (i+k):=by
 rw[JN]
 by_cases hb:b=0
 ·subst hb; rw[Nat.mul_zero]; exact mul_pos (eU i) (eU k)
 ·exact Nat.mul_lt_mul_of_lt_of_le h1 (le_of_lt h2) (eU k)
theorem TT {l:List Int} (h:bN l) {i:Nat} (hv:val l < pw i):ni l i=0:=by
 rw[wU i h,my hv]; rfl
theorem Kh {out:List Int} {j:Nat} {x y c n:Int} {V:Nat} (hl:bN out) (hj:j < out.length) (hx:0<=x) (hx2:x<=999999999) (hy:0<=y) (hy2:y<=999999999) (hc:0<=c) (hc2:c<=999999999) (hn:n=ni out j+x * y+c) (hv:val out+pw j * c.toNat=V) :
  0<=n/\n<=999999999999999999/\bN (out.set j (n % 1000000000))/\val (out.set j (n % 1000000000))+pw (j+1) * (n / 1000000000).toNat=V+pw j * (x * y).toNat:=by
 have h1:=Em hl j
 have hxy:0<=x * y:=mul_nonneg hx hy
 have hxy2:x * y<=999999999 * 999999999:=Int.mul_le_mul hx2 hy2 hy J
 refine⟨J,J,An hl j J J,?_⟩
 have hs:=yX (n % 1000000000) hj
 generalize val (out.set j (n % 1000000000))=v' at *
 rw[eA]
 have e1:n.toNat=(ni out j).toNat+(x * y).toNat+c.toNat:=J
 have e2:n.toNat=(n % 1000000000).toNat+1000000000 * (n / 1000000000).toNat:=J
 generalize (ni out j).toNat=o at *
 generalize (x * y).toNat=p at *
 generalize c.toNat=cc at *
 generalize (n % 1000000000).toNat=r at *
 generalize (n / 1000000000).toNat=q at *
 have e3:pw j * n.toNat=pw j * o+pw j * p+pw j * cc:=by rw[e1,mul_add,mul_add]
 have e4:pw j * n.toNat=pw j * r+1000000000 * pw j * q:=by
  rw[e2,mul_add,<-mul_assoc,mul_comm (pw j) 1000000000]
 omega
theorem NA (a b i k:Nat):a % pw i * b+pw i * (dg a i * (b % pw k))+pw (i+k) * (dg a i * dg b k)=a % pw i * b+pw i * (dg a i * (b % pw (k+1))):=by
 rw[ju,JN,mul_add (dg a i),mul_add (pw i),<-Nat.add_assoc]
 congr 1
 simp only[mul_assoc,mul_left_comm,mul_comm]
theorem B9 {a b i k:Nat} (h:nl b<=k):a % pw i * b+pw i * (dg a i * (b % pw k))=a % pw (i+1) * b:=by
 rw[mod_eq_of_lt (dA.1 h),ju,add_mul,mul_assoc]
theorem QQ (a b i k:Nat):a % pw i * b+pw i * (dg a i * (b % pw k)) < pw (i+1+nl b):=by
 have h1:a % pw i * b+pw i * (dg a i * (b % pw k))<=a % pw (i+1) * b:=by
  rw[ju,add_mul,mul_assoc]
  exact Nat.add_le_add_left (mul_le_mul_left _ (mul_le_mul_left _ (Nat.mod_le _ _))) _
 exact lt_of_le_of_lt h1 (Gf (mod_lt _ (eU _)) (ef b))
theorem qA {a n i:Nat} (hn:0 < n):(a / pw (i+1) % n * 1000000000+dg a i) % n=a / pw i % n/\a / pw i / n=1000000000 * (a / pw (i+1) / n)+(a / pw (i+1) % n * 1000000000+dg a i) / n/\(a / pw (i+1) % n * 1000000000+dg a i) / n < 1000000000:=by
 have h1:=ko a i
 have h2:=eQ a i
 generalize dg a i=d at *
 generalize a / pw (i+1)=q at *
 have h3:=mod_add_div q n
 have h4:=mod_lt q hn
 have h5:a / pw i=q % n * 1000000000+d+n * (1000000000 * (q / n)):=by
  rw[h1,mul_left_comm]; omega
 rw[h5]
 generalize q % n=r at *
 refine⟨by rw[Nat.add_mul_mod_self_left],by rw[Nat.add_mul_div_left _ _ hn]; omega,?_⟩
 rw[div_lt_iff_lt_mul hn]
 have:(r+1) * 1000000000<=n * 1000000000:=mul_le_mul_right _ h4
 rw[mul_comm 1000000000 n]
 omega
theorem ta {out:List Int} {i v:Nat} {V:Nat} (hl:bN out) (hi:i < out.length) (hv:v < 1000000000) (hV:val out=pw (i+1) * V):bN (out.set i (v:Int))/\val (out.set i (v:Int))=pw i * (1000000000 * V+v):=by
 refine⟨An hl i J J,?_⟩
 have hs:=yX (v:Int) hi
 have h0:ni out i=0:=by
  rw[wU i hl,hV,dg,eA,mul_assoc,mul_left_comm,Nat.mul_div_cancel_left _ (eU i),Nat.mul_mod_right]; rfl
 rw[h0,hV,toNat_natCast,eA] at hs
 rw[mul_add,<-mul_assoc,mul_comm (pw i) 1000000000]
 simpa using hs
attribute [go_sem] qP gO
theorem sq {l:List Int} {x y:Int} (h:x=y):l++[x]=l++[y]:=by rw[h]
theorem FQ (a b:Nat) (ha:nl a<=100000) (hb:nl b<=100000):Fn prog 229 [⟨aq,aB a⟩,⟨aq,aB b⟩] true [⟨aq,aB (a+b)⟩]:=by
 refine fe func229 ntmps229 results229 fun hwf=>?_
 refine Nz ?_
 refine⟨by constructor<;>omega,J,J,?_⟩
 refine aF.intro _ _ _ (fun i:Nat=>⟨[(0,.sl .int (aB a)),(1,.sl .int (aB b)),(5,.row 0 0),(6,.sc (.int .i64 (jB a b i:Nat))),(7,.sc (.int .i64 i))],[(0,.row 3 .int 0 true (nO (a+b) i))]⟩) (fun i=>i<=100001/\(i=0\/pw (i - 1)<=a+b)) (fun i=>100002 - i) 0 ?_ ⟨J,.inl rfl⟩ ?_
 ·refine Wk.mk [] ?_
  refine Nz ?_
  try (and_intros<;>first|rfl|omega|exact⟨_,rfl⟩)
  all_goals (exact⟨⟨by rw[vf]; rfl,rfl⟩,rfl⟩)
 ·rintro i ⟨h1,h2⟩
  have hcl:=tQ a b i
  by_cases hc:(i:Int) < nl a\/(i:Int) < nl b\/(0:Int) < (jB a b i:Nat)
  ·have hbig:pw i<=a+b:=MT J
   have hi:i<=100000:=by
    have:=CV a b
    have:=jQ.2 hbig
    omega
   have hda:=eQ a i
   have hdb:=eQ b i
   have hp:(i:Int) < nl a\/(¬ (i:Int) < nl a/\(i:Int) < nl b)\/(¬ (i:Int) < nl a/\¬ (i:Int) < nl b/\(0:Int) < (jB a b i:Nat)):=J
   rcases hp with hA|⟨hA,hB⟩|⟨hA,hB,hC⟩
   all_goals first|simp (maxSteps:=9^9) only[go_sem,hA,hB,hC]|simp (maxSteps:=9^9) only[go_sem,hA,hB]|simp (maxSteps:=9^9) only[go_sem,hA]
   all_goals
    refine Cz (oL (aB a) i J) ?_
    refine cw (oL (aB b) i J) ?_
    refine Nz ?_
    refine⟨by constructor<;>omega,by constructor<;>omega,fR.pos J ae ?_⟩
    try simp (maxSteps:=9^9) only[go_sem,eS]
    refine⟨J,J,lF.pos J ae ?_⟩
    refine Nz ?_
    refine⟨by constructor<;>omega,az.mk (i+1) ?_ ⟨J,.inr hbig⟩ J⟩
    refine Wk.mk [] ?_
    refine Nz ?_
    try (and_intros<;>first|rfl|omega|exact⟨_,rfl⟩)
    all_goals (rw[iR,<-uP a b i,<-oI a b i]; exact⟨⟨J,rfl⟩,sq J⟩)
  ·have hA:¬ (i:Int) < nl a:=J
   have hB:¬ (i:Int) < nl b:=J
   have hC:¬ (0:Int) < (jB a b i:Nat):=J
   refine Uz3 hA hB hC ?_
   exact Jt (Mc J J J) J
theorem RE (a b:Nat) (ha:nl a<=100000) (hb:nl b<=100000):Fn prog 351 [⟨aq,aB a⟩,⟨aq,aB b⟩] true [⟨aq,aB (a+b)⟩]:=by
 refine fe func351 ntmps351 results351 fun hwf=>?_
 refine Nz ?_
 refine aF.intro _ _ _ (fun i:Nat=>⟨[(0,.sl .int (aB a)),(1,.sl .int (aB b)),(5,.row 0 0),(6,.sc (.int .i64 (jB a b i:Nat))),(7,.sc (.int .i64 i))],[(0,.row 3 .int 0 true (nO (a+b) i))]⟩) (fun i=>i<=100001/\(i=0\/pw (i - 1)<=a+b)) (fun i=>100002 - i) 0 ?_ ⟨J,.inl rfl⟩ ?_
 ·refine Wk.mk [] ?_
  refine Nz ?_
  try (and_intros<;>first|rfl|omega|exact⟨_,rfl⟩)
  all_goals (exact⟨⟨by rw[vf]; rfl,rfl⟩,rfl⟩)
 ·rintro i ⟨h1,h2⟩
  have hcl:=tQ a b i
  by_cases hc:(i:Int) < nl a\/(i:Int) < nl b\/(0:Int) < (jB a b i:Nat)
  ·have hbig:pw i<=a+b:=MT J
   have hi:i<=100000:=by
    have:=CV a b
    have:=jQ.2 hbig
    omega
   have hda:=eQ a i
   have hdb:=eQ b i
   have hp:((i:Int) < nl a/\(i:Int) < nl b)\/((i:Int) < nl a/\¬ (i:Int) < nl b)\/(¬ (i:Int) < nl a/\(i:Int) < nl b)\/(¬ (i:Int) < nl a/\¬ (i:Int) < nl b/\(0:Int) < (jB a b i:Nat)):=J
   have za:¬ (i:Int) < nl a->dg a i=0:=fun h=>my (dA.1 J)
   have zb:¬ (i:Int) < nl b->dg b i=0:=fun h=>my (dA.1 J)
   rcases hp with ⟨hA,hB⟩|⟨hA,hB⟩|⟨hA,hB⟩|⟨hA,hB,hC⟩
   ·refine tW hA hB ?_
    refine⟨J,by constructor<;>omega,J,by constructor<;>omega,fR.pos J ae ?_⟩
    try simp (maxSteps:=9^9) only[go_sem,eS]
    refine⟨J,J,lF.pos J ae ?_⟩
    refine Nz ?_
    refine⟨by constructor<;>omega,az.mk (i+1) ?_ ⟨J,.inr hbig⟩ J⟩
    refine Wk.mk [] ?_
    refine Nz ?_
    try (and_intros<;>first|rfl|omega|exact⟨_,rfl⟩)
    all_goals (rw[iR,<-uP a b i,<-oI a b i]; exact⟨⟨J,rfl⟩,sq J⟩)
   ·have hz:=zb hB
    refine tW hA hB ?_
    refine⟨J,by constructor<;>omega,fR.pos J ae ?_⟩
    try simp (maxSteps:=9^9) only[go_sem,eS]
    refine⟨J,J,lF.pos J ae ?_⟩
    refine Nz ?_
    refine⟨by constructor<;>omega,az.mk (i+1) ?_ ⟨J,.inr hbig⟩ J⟩
    refine Wk.mk [] ?_
    refine Nz ?_
    try (and_intros<;>first|rfl|omega|exact⟨_,rfl⟩)
    all_goals (rw[iR,<-uP a b i,<-oI a b i]; exact⟨⟨J,rfl⟩,sq J⟩)
   ·have hz:=za hA
    refine tW hA hB ?_
    refine⟨J,by constructor<;>omega,fR.pos J ae ?_⟩
    try simp (maxSteps:=9^9) only[go_sem,eS]
    refine⟨J,J,lF.pos J ae ?_⟩
    refine Nz ?_
    refine⟨by constructor<;>omega,az.mk (i+1) ?_ ⟨J,.inr hbig⟩ J⟩
    refine Wk.mk [] ?_
    refine Nz ?_
    try (and_intros<;>first|rfl|omega|exact⟨_,rfl⟩)
    all_goals (rw[iR,<-uP a b i,<-oI a b i]; exact⟨⟨J,rfl⟩,sq J⟩)
   ·have hz:=za hA
    have hz2:=zb hB
    refine Uz3 hA hB hC ?_
    refine fR.pos J ae ?_
    try simp (maxSteps:=9^9) only[go_sem,eS]
    refine⟨J,J,lF.pos J ae ?_⟩
    refine Nz ?_
    refine⟨by constructor<;>omega,az.mk (i+1) ?_ ⟨J,.inr hbig⟩ J⟩
    refine Wk.mk [] ?_
    refine Nz ?_
    try (and_intros<;>first|rfl|omega|exact⟨_,rfl⟩)
    all_goals (rw[iR,<-uP a b i,<-oI a b i]; exact⟨⟨J,rfl⟩,sq J⟩)
  ·have hA:¬ (i:Int) < nl a:=J
   have hB:¬ (i:Int) < nl b:=J
   have hC:¬ (0:Int) < (jB a b i:Nat):=J
   refine Uz3 hA hB hC ?_
   exact Jt (Mc J J J) J
theorem OZ (b d:Nat) (ha:nl (b+d)<=100000):Fn prog 230 [⟨aq,aB (b+d)⟩,⟨aq,aB b⟩] false [⟨aq,aB d⟩]:=by
 refine fe func230 ntmps230 results230 fun hwf=>?_
 refine Nz ?_
 refine⟨J,J,?_⟩
 refine aF.intro _ _ _ (fun i:Nat=>⟨[(0,.sl .int (aB (b+d))),(1,.sl .int (aB b)),(5,.row 0 0),(6,.sc (.int .i64 (jB b d i:Nat))),(13,.sc (.int .i64 (nl (b+d)))),(14,.sc (.int .i64 i))],[(0,.row 3 .int 0 true (nO d i))]⟩) (fun i=>i<=nl (b+d)) (fun i=>nl (b+d) - i) 0 ?_ J ?_
 ·refine Wk.mk [] ?_
  refine Nz ?_
  try (and_intros<;>first|rfl|omega|exact⟨_,rfl⟩)
  all_goals (exact⟨⟨by rw[vf]; rfl,rfl⟩,rfl⟩)
 ·rintro i h1
  have hs:=QP b d i
  have hc1:=tQ b d i
  have hc2:=tQ b d (i+1)
  have hd1:=eQ b i
  have hd2:=eQ d i
  have hd3:=eQ (b+d) i
  refine Nz ?_
  refine ao ?_ ?_<;>intro hA
  ·refine Uz hA ?_
   refine⟨J,?_⟩
   refine Bz (oL (aB b) i J) ?_
   refine⟨by constructor<;>omega,by constructor<;>omega,by kernel_rfl,?_⟩
   refine ao ?_ ?_<;>intro hB
   ·refine Nz ?_
    refine⟨by constructor<;>omega,?_⟩
    try simp (maxSteps:=9^9) only[go_sem,eS]
    refine⟨J,J,by constructor<;>omega,az.mk (i+1) ?_ J J⟩
    refine Wk.mk [] ?_
    refine Nz ?_
    try (and_intros<;>first|rfl|omega|exact⟨_,rfl⟩)
    all_goals (rw[iR]; exact⟨⟨J,J⟩,sq J⟩)
   ·try simp (maxSteps:=9^9) only[go_sem,eS]
    refine⟨J,J,by constructor<;>omega,az.mk (i+1) ?_ J J⟩
    refine Wk.mk [] ?_
    refine Nz ?_
    try (and_intros<;>first|rfl|omega|exact⟨_,rfl⟩)
    all_goals (rw[iR]; exact⟨⟨J,J⟩,sq J⟩)
  ·refine Tz hA ?_
   refine cw (nL (nO d i)) ?_
   refine Nz ?_
   exact sP (lt_of_le_of_lt (Nat.le_add_left d b) (dA.1 J))
theorem wO (a b:Nat) (hab:b<=a) (ha:nl a<=100000):Fn prog 230 [⟨aq,aB a⟩,⟨aq,aB b⟩] false [⟨aq,aB (a - b)⟩]:=by
 obtain⟨d,rfl⟩:=Nat.le.dest hab
 rw[Nat.add_sub_cancel_left]
 exact OZ b d ha
theorem Ps (b d:Nat) (ha:nl (b+d)<=100000):Fn prog 353 [⟨aq,aB (b+d)⟩,⟨aq,aB b⟩] false [⟨aq,aB d⟩]:=by
 refine fe func353 ntmps353 results353 fun hwf=>?_
 refine Nz ?_
 refine aF.intro _ _ _ (fun i:Nat=>⟨[(0,.sl .int (aB (b+d))),(1,.sl .int (aB b)),(5,.row 0 0),(6,.sc (.int .i64 (jB b d i:Nat))),(11,.sc (.int .i64 (nl (b+d)))),(12,.sc (.int .i64 i))],[(0,.row 3 .int 0 true (nO d i))]⟩) (fun i=>i<=nl (b+d)) (fun i=>nl (b+d) - i) 0 ?_ J ?_
 ·refine Wk.mk [] ?_
  refine Nz ?_
  try (and_intros<;>first|rfl|omega|exact⟨_,rfl⟩)
  all_goals (exact⟨⟨by rw[vf]; rfl,rfl⟩,rfl⟩)
 ·rintro i h1
  have hs:=QP b d i
  have hc1:=tQ b d i
  have hc2:=tQ b d (i+1)
  have hd1:=eQ b i
  have hd2:=eQ d i
  have hd3:=eQ (b+d) i
  refine Nz ?_
  refine ao ?_ ?_<;>intro hA
  ·refine Uz hA ?_
   refine⟨J,by constructor<;>omega,?_⟩
   refine ao (fun hZ=>?_) (fun hZ=>?_)
   ·refine Uz hZ ?_
    refine⟨J,by constructor<;>omega,?_⟩
    refine ao ?_ ?_<;>intro hB
    ·refine Nz ?_
     refine⟨by constructor<;>omega,?_⟩
     try simp (maxSteps:=9^9) only[go_sem,eS]
     refine⟨J,J,by constructor<;>omega,az.mk (i+1) ?_ J J⟩
     refine Wk.mk [] ?_
     refine Nz ?_
     try (and_intros<;>first|rfl|omega|exact⟨_,rfl⟩)
     all_goals (rw[iR]; exact⟨⟨J,J⟩,sq J⟩)
    ·try simp (maxSteps:=9^9) only[go_sem,eS]
     refine⟨J,J,by constructor<;>omega,az.mk (i+1) ?_ J J⟩
     refine Wk.mk [] ?_
     refine Nz ?_
     try (and_intros<;>first|rfl|omega|exact⟨_,rfl⟩)
     all_goals (rw[iR]; exact⟨⟨J,J⟩,sq J⟩)
   ·have hz:dg b i=0:=my (dA.1 J)
    refine Uz hZ ?_
    refine ao ?_ ?_<;>intro hB
    ·refine Nz ?_
     refine⟨by constructor<;>omega,?_⟩
     try simp (maxSteps:=9^9) only[go_sem,eS]
     refine⟨J,J,by constructor<;>omega,az.mk (i+1) ?_ J J⟩
     refine Wk.mk [] ?_
     refine Nz ?_
     try (and_intros<;>first|rfl|omega|exact⟨_,rfl⟩)
     all_goals (rw[iR]; exact⟨⟨J,J⟩,sq J⟩)
    ·try simp (maxSteps:=9^9) only[go_sem,eS]
     refine⟨J,J,by constructor<;>omega,az.mk (i+1) ?_ J J⟩
     refine Wk.mk [] ?_
     refine Nz ?_
     try (and_intros<;>first|rfl|omega|exact⟨_,rfl⟩)
     all_goals (rw[iR]; exact⟨⟨J,J⟩,sq J⟩)
  ·refine Tz hA ?_
   refine cw (jo (nO d i)) ?_
   refine Nz ?_
   exact sP (lt_of_le_of_lt (Nat.le_add_left d b) (dA.1 J))
theorem wQ (a b:Nat) (hab:b<=a) (ha:nl a<=100000):Fn prog 353 [⟨aq,aB a⟩,⟨aq,aB b⟩] false [⟨aq,aB (a - b)⟩]:=by
 obtain⟨d,rfl⟩:=Nat.le.dest hab
 rw[Nat.add_sub_cancel_left]
 exact Ps b d ha
theorem x7 (a b i k:Nat):((dg a i:Int) * (dg b k:Int)).toNat=dg a i * dg b k:=by rw[<-natCast_mul,toNat_natCast]
theorem Pa (i k:Nat):((i:Int)+(k:Int)).toNat=i+k:=J
attribute [go_sem] Pa ne_eq
theorem mM (a b:Nat) (ha:nl a<=100000) (hb:nl b<=100000):Fn prog 154 [⟨aq,aB a⟩,⟨aq,aB b⟩] false [⟨aq,aB (a * b)⟩]:=by
 refine fe func154 ntmps154 results154 fun hwf=>?_
 refine Sz ?_
 refine aF.intro _ _ _ (fun x:Nat × List Int=>⟨[(0,.sl .int (aB a)),(1,.sl .int (aB b)),(5,.row 0 0),(17,.sl .int (aB a)),(18,.sc (.int .i64 (nl a))),(19,.sc (.int .i64 x.1))],[(0,.row 3 .int 0 true x.2)]⟩) (fun x=>x.1<=nl a/\bN x.2/\x.2.length=nl a+nl b/\val x.2=a % pw x.1 * b) (fun x=>nl a - x.1) (0,replicate (nl a+nl b) 0) ?_ ⟨by simp,oV _,by simp,by simp[qX,gz,mod_one]⟩ ?_
 ·exact WK
 ·rintro⟨i,out⟩ ⟨h1,h2,h3,h4⟩
  simp only at h1 h2 h3 h4
  have hd1:=eQ a i
  refine Nz ?_
  refine ao ?_ ?_<;>intro hA
  ·refine Tz hA ?_
   refine aF.intro _ _ _ (fun x:Nat × Int × List Int=>⟨[(0,.sl .int (aB a)),(1,.sl .int (aB b)),(5,.row 0 0),(6,.sc (.int .i64 i)),(7,.sc (.int .i64 (dg a i))),(8,.sc (.int .i64 x.2.1)),(9,.sc (.int .i64 x.1)),(17,.sl .int (aB a)),(18,.sc (.int .i64 (nl a))),(19,.sc (.int .i64 i))],[(0,.row 3 .int 0 true x.2.2)]⟩) (fun x=>x.1<=nl b+1/\0<=x.2.1/\x.2.1<=999999999/\bN x.2.2/\x.2.2.length=nl a+nl b/\val x.2.2+pw (i+x.1) * x.2.1.toNat=a % pw i * b+pw i * (dg a i * (b % pw x.1))) (fun x=>nl b+1 - x.1) (0,0,out) ?_ ⟨by simp,by simp,by simp,h2,h3,by simp[h4,gz,mod_one]⟩ ?_
   ·exact WK
   ·rintro⟨k,c,ou⟩ ⟨g1,g2,g3,g4,g5,g6⟩
    simp only at g1 g2 g3 g4 g5 g6
    by_cases hc:(k:Int) < nl b\/0 < c
    ·have hk:k<=nl b:=by
      rcases hc with hc|hc
      ·omega
      ·have e1:=QQ a b i k
       rw[<-g6] at e1
       have e2:pw (i+k) * 1<=pw (i+k) * c.toNat:=mul_le_mul_left _ J
       have e3:pw (i+k) < pw (i+1+nl b):=J
       have:=FB.1 e3
       omega
     have hd2:=eQ b k
     obtain⟨m1,m2,m3,m4⟩:=Kh (j:=i+k) (x:=dg a i) (y:=dg b k) (c:=c) (n:=ni ou (i+k)+dg a i * dg b k+c) g4 J J J J J g2 g3 rfl g6
     rw[x7,NA] at m4
     have hni:=Em g4 (i+k)
     have hmm:0<=(dg a i:Int) * (dg b k:Int):=mul_nonneg J J
     generalize hmg:(dg a i:Int) * (dg b k:Int)=mm at *
     have hp:(k:Int) < nl b\/(¬ (k:Int) < nl b/\0 < c):=J
     rcases hp with hB|⟨hB,hC⟩
     all_goals first|simp (maxSteps:=9^9) only[go_sem,hB,hC]|simp (maxSteps:=9^9) only[go_sem,hB]
     all_goals
      refine Bz (oL (aB b) k J) ?_
      rw[hmg]
      repeat refine AI ?_
      refine fR.pos J ae ?_
      refine Sz ?_
      refine lF.pos J ae ?_
      refine Nz ?_
      refine⟨by constructor<;>omega,az.mk (k+1,(ni ou (i+k)+mm+c) / 1000000000,ou.set (i+k) ((ni ou (i+k)+mm+c) % 1000000000)) ?_ ⟨by simp only; omega,by simp only; omega,by simp only; omega,m3,by simp[g5],m4⟩ (by simp only; omega)⟩
      exact WK
    ·have hB:¬ (k:Int) < nl b:=J
     have hC:¬ 0 < c:=J
     have hc0:c=0:=J
     refine tW hB hC ?_
     subst hc0
     rw[B9 J] at g6
     refine⟨by constructor<;>omega,az.mk (i+1,ou) ?_ ⟨by simp only; omega,g4,g5,by simpa using g6⟩ (by simp only; omega)⟩
     exact WK
  ·refine Tz hA ?_
   refine cw (nL out) ?_
   refine Nz ?_
   rw[kS h2,h4,mod_eq_of_lt (dA.1 J)]
theorem jS (a b:Nat) (ha:nl a<=100000) (hb:nl b<=100000):Fn prog 311 [⟨aq,aB a⟩,⟨aq,aB b⟩] false [⟨aq,aB (a * b)⟩]:=by
 by_cases hz:a=0\/b=0
 ·have hp:nl a=0\/(nl a ≠ 0/\nl b=0):=by
   rcases hz with hz|hz
   ·exact .inl (dz.2 hz)
   ·by_cases h0:nl a=0
    ·exact .inl h0
    ·exact .inr ⟨h0,dz.2 hz⟩
  have hr:aB (a * b)=[]:=by rcases hz with rfl|rfl<;>simp[dx]
  rw[hr]
  refine fe func311 ntmps311 results311 fun hwf=>?_
  rcases hp with h1|⟨h1,h2⟩
  ·have hA:(nl a:Int)=0:=J
   try simp (maxSteps:=9^9) only[go_sem,hA]
  ·have hA:¬ (nl a:Int)=0:=J
   have hB:(nl b:Int)=0:=J
   try simp (maxSteps:=9^9) only[go_sem,hA,hB]
 have hA:¬ (nl a:Int)=0:=fun h=>hz (.inl (dz.1 J))
 have hB:¬ (nl b:Int)=0:=fun h=>hz (.inr (dz.1 J))
 refine fe func311 ntmps311 results311 fun hwf=>?_
 refine fy hA hB ?_
 refine aF.intro _ _ _ (fun x:Nat × List Int=>⟨[(0,.sl .int (aB a)),(1,.sl .int (aB b)),(5,.row 0 0),(26,.sl .int (aB a)),(27,.sc (.int .i64 (nl a))),(28,.sc (.int .i64 x.1))],[(0,.row 3 .int 0 true x.2)]⟩) (fun x=>x.1<=nl a/\bN x.2/\x.2.length=nl a+nl b/\val x.2=a % pw x.1 * b) (fun x=>nl a - x.1) (0,replicate (nl a+nl b) 0) ?_ ⟨by simp,oV _,by simp,by simp[qX,gz,mod_one]⟩ ?_
 ·exact WK
 ·rintro⟨i,out⟩ ⟨h1,h2,h3,h4⟩
  simp only at h1 h2 h3 h4
  have hd1:=eQ a i
  refine Nz ?_
  refine ao (fun hC=>?_) (fun hC=>?_)
  ·refine Tz hC ?_
   have hv:val out < pw (i+nl b):=by rw[h4]; exact Gf (mod_lt _ (eU i)) (ef b)
   refine aF.intro _ _ _ (fun x:Nat × Int × List Int=>⟨[(0,.sl .int (aB a)),(1,.sl .int (aB b)),(5,.row 0 0),(6,.sc (.int .i64 i)),(7,.sc (.int .i64 (dg a i))),(8,.sc (.int .i64 x.2.1)),(26,.sl .int (aB a)),(27,.sc (.int .i64 (nl a))),(28,.sc (.int .i64 i)),(33,.sl .int (aB b)),(34,.sc (.int .i64 (nl b))),(35,.sc (.int .i64 x.1))],[(0,.row 3 .int 0 true x.2.2)]⟩) (fun x=>x.1<=nl b/\0<=x.2.1/\x.2.1<=999999999/\bN x.2.2/\x.2.2.length=nl a+nl b/\ni x.2.2 (i+nl b)=0/\val x.2.2+pw (i+x.1) * x.2.1.toNat=a % pw i * b+pw i * (dg a i * (b % pw x.1))) (fun x=>nl b - x.1) (0,0,out) ?_ ⟨by simp,by simp,by simp,h2,h3,TT h2 hv,by simp[h4,gz,mod_one]⟩ ?_
   ·exact WK
   ·rintro⟨k,c,ou⟩ ⟨g1,g2,g3,g4,g5,g7,g6⟩
    simp only at g1 g2 g3 g4 g5 g6 g7
    refine Nz ?_
    refine ao (fun hD=>?_) (fun hD=>?_)
    ·have hd2:=eQ b k
     obtain⟨m1,m2,m3,m4⟩:=Kh (j:=i+k) (x:=dg a i) (y:=dg b k) (c:=c) (n:=ni ou (i+k)+dg a i * dg b k+c) g4 J J J J J g2 g3 rfl g6
     rw[x7,NA] at m4
     have hni:=Em g4 (i+k)
     have hmm:0<=(dg a i:Int) * (dg b k:Int):=mul_nonneg J J
     generalize hmg:(dg a i:Int) * (dg b k:Int)=mm at *
     refine fy hD hmg ?_
     refine fR.pos J ae ?_
     refine Sz ?_
     refine lF.pos J ae ?_
     refine Sz ?_
     refine az.mk (k+1,(ni ou (i+k)+mm+c) / 1000000000,ou.set (i+k) ((ni ou (i+k)+mm+c) % 1000000000)) ?_ ⟨by simp only; omega,by simp only; omega,by simp only; omega,m3,by simp[g5],?_,m4⟩ (by simp only; omega)
     ·exact WK
     ·simp only
      rw[cd (by simp; omega),List.getElem_set_ne J,<-cd J]; exact g7
    ·refine Uz hD ?_
     have hk:k=nl b:=J
     subst hk
     rw[B9 (le_refl _)] at g6
     have hs:=yX c (show i+nl b < ou.length from J)
     rw[g7] at hs
     repeat refine AI ?_
     refine az.mk (i+1,ou.set (i+nl b) c) ?_ ⟨by simp only; omega,An g4 _ g2 g3,by simp[g5],by simp only; rw[<-g6]; simpa using hs⟩ (by simp only; omega)
     exact WK
  ·refine Tz hC ?_
   refine cw (jo out) ?_
   refine Nz ?_
   rw[kS h2,h4,mod_eq_of_lt (dA.1 J)]
theorem uI (a n:Nat) (hn:0 < n) (hn2:n < 1000000000) (ha:nl a<=100000):Fn prog 240 [⟨aq,aB a⟩,⟨.int,(n:Int)⟩] false [⟨aq,aB (a / n)⟩,⟨.int,((a % n:Nat):Int)⟩]:=by
 refine fe func240 ntmps240 results240 fun hwf=>?_
 refine Sz ?_
 refine aF.intro _ _ _ (fun x:Nat × List Int=>⟨[(0,.sl .int (aB a)),(1,.sc (.int .i64 n)),(6,.row 0 0),(7,.sc (.int .i64 (a / pw x.1 % n:Nat))),(8,.sc (.int .i64 ((x.1:Int) - 1)))],[(0,.row 3 .int 0 true x.2)]⟩) (fun x=>x.1<=nl a/\bN x.2/\x.2.length=nl a/\val x.2=pw x.1 * (a / pw x.1 / n)) (fun x=>x.1) (nl a,replicate (nl a) 0) ?_ ⟨by simp,oV _,by simp,by simp[qX,div_eq_of_lt (ef a)]⟩ ?_
 ·refine Wk.mk [] ?_
  refine Nz ?_
  try (and_intros<;>first|rfl|omega|exact⟨_,rfl⟩)
  all_goals (simp[div_eq_of_lt (ef a)])
 ·rintro⟨t,out⟩ ⟨h1,h2,h3,h4⟩
  simp only at h1 h2 h3 h4
  have hml:=mod_lt (a / pw t) hn
  refine Nz ?_
  refine ao ?_ ?_<;>intro hA
  ·obtain⟨i,rfl⟩:∃i,t=i+1:=⟨t - 1,J⟩
   have hd1:=eQ a i
   obtain⟨s1,s2,s3⟩:=qA (a:=a) (i:=i) hn
   obtain⟨s4,s5⟩:=ta h2 (show i < out.length from J) s3 h4
   have ei:((i+1:Nat):Int) - 1=i:=J
   refine Tz ei ?_
   refine lF.pos J J ?_
   refine Sz ?_
   refine fR.pos J J ?_
   refine Sz ?_
   have eq1:(((a / pw (i+1) % n:Nat):Int) * 1000000000+(dg a i:Int)) / (n:Int)=(((a / pw (i+1) % n * 1000000000+dg a i) / n:Nat):Int):=by
    rw[Int.natCast_ediv]; congr 1
   have eq2:(((a / pw (i+1) % n:Nat):Int) * 1000000000+(dg a i:Int)) % (n:Int)=((a / pw i % n:Nat):Int):=by
    rw[<-s1,Int.natCast_emod]; congr 1
   refine az.mk (i,out.set i (((a / pw (i+1) % n * 1000000000+dg a i) / n:Nat):Int)) ?_ ⟨by simp only; omega,s4,by simp[h3],by simp only; rw[s5,s2]⟩ (by simp only; omega)
   refine Wk.mk [] ?_
   refine Nz ?_
   try (and_intros<;>first|rfl|omega|exact⟨_,rfl⟩)
   all_goals (rw[eq1,eq2]; exact⟨rfl,rfl⟩)
  ·have ht:t=0:=J
   subst ht
   refine Tz hA ?_
   refine cw (nL out) ?_
   refine Nz ?_
   rw[kS h2,h4,gz,div_one,one_mul]
   exact⟨rfl,rfl⟩
theorem Ln (a n:Nat) (hn:0 < n) (hn2:n < 1000000000) (ha:nl a<=100000):Fn prog 371 [⟨aq,aB a⟩,⟨.int,(n:Int)⟩] false [⟨aq,aB (a / n)⟩,⟨.int,((a % n:Nat):Int)⟩]:=by
 refine fe func371 ntmps371 results371 fun hwf=>?_
 refine Sz ?_
 refine aF.intro _ _ _ (fun x:Nat × List Int=>⟨[(0,.sl .int (aB a)),(1,.sc (.int .i64 n)),(6,.row 0 0),(7,.sc (.int .i64 (a / pw x.1 % n:Nat))),(8,.sc (.int .i64 ((x.1:Int) - 1)))],[(0,.row 3 .int 0 true x.2)]⟩) (fun x=>x.1<=nl a/\bN x.2/\x.2.length=nl a/\val x.2=pw x.1 * (a / pw x.1 / n)) (fun x=>x.1) (nl a,replicate (nl a) 0) ?_ ⟨by simp,oV _,by simp,by simp[qX,div_eq_of_lt (ef a)]⟩ ?_
 ·refine Wk.mk [] ?_
  refine Nz ?_
  try (and_intros<;>first|rfl|omega|exact⟨_,rfl⟩)
  all_goals (simp[div_eq_of_lt (ef a)])
 ·rintro⟨t,out⟩ ⟨h1,h2,h3,h4⟩
  simp only at h1 h2 h3 h4
  have hml:=mod_lt (a / pw t) hn
  refine Nz ?_
  refine ao ?_ ?_<;>intro hA
  ·obtain⟨i,rfl⟩:∃i,t=i+1:=⟨t - 1,J⟩
   have hd1:=eQ a i
   obtain⟨s1,s2,s3⟩:=qA (a:=a) (i:=i) hn
   obtain⟨s4,s5⟩:=ta h2 (show i < out.length from J) s3 h4
   have ei:((i+1:Nat):Int) - 1=i:=J
   refine Tz ei ?_
   refine lF.pos J J ?_
   refine Sz ?_
   refine fR.pos J J ?_
   refine Sz ?_
   have eq1:(((a / pw (i+1) % n:Nat):Int) * 1000000000+(dg a i:Int)) / (n:Int)=(((a / pw (i+1) % n * 1000000000+dg a i) / n:Nat):Int):=by
    rw[Int.natCast_ediv]; congr 1
   have eq2:(((a / pw (i+1) % n:Nat):Int) * 1000000000+(dg a i:Int)) % (n:Int)=((a / pw i % n:Nat):Int):=by
    rw[<-s1,Int.natCast_emod]; congr 1
   refine az.mk (i,out.set i (((a / pw (i+1) % n * 1000000000+dg a i) / n:Nat):Int)) ?_ ⟨by simp only; omega,s4,by simp[h3],by simp only; rw[s5,s2]⟩ (by simp only; omega)
   refine Wk.mk [] ?_
   refine Nz ?_
   try (and_intros<;>first|rfl|omega|exact⟨_,rfl⟩)
   all_goals (rw[eq1,eq2]; exact⟨rfl,rfl⟩)
  ·have ht:t=0:=J
   subst ht
   refine Tz hA ?_
   refine cw (jo out) ?_
   refine Nz ?_
   rw[kS h2,h4,gz,div_one,one_mul]
   exact⟨rfl,rfl⟩
end DW

namespace DW
open Ieee
theorem Ww:∃u:Nat,u=2 ^ 1074:=⟨_,rfl⟩
theorem VV:∃u:Nat,u=2 ^ 1000:=⟨_,rfl⟩
theorem V5:∃u:Nat,u=2 ^ 2000:=⟨_,rfl⟩
def UU:Nat:=Classical.choose Ww
def GG:Nat:=Classical.choose VV
def LL:Nat:=Classical.choose V5
theorem lT:UU=2 ^ 1074:=Classical.choose_spec Ww
theorem xi:GG=2 ^ 1000:=Classical.choose_spec VV
theorem Kj:LL=2 ^ 2000:=Classical.choose_spec V5
def Rd (x R:Nat):Prop:=∃m k:Nat,double.read x=.number false m ((k:Int) - 1074)/\m < 2 ^ 53/\k<=2000/\R=m * 2 ^ k
def vR (T N:Nat):Prop:=T * 2 ^ 53<=N * 2 ^ 53+N/\N * 2 ^ 53<=T * 2 ^ 53+N
theorem sA (N:Nat):vR N N:=⟨Nat.le_add_right ..,Nat.le_add_right ..⟩
theorem xm:double.leastPlace=-1074:=ae
theorem wu:double.binade=2 ^ 52:=ae
theorem C6:double.infRung=2047 * 2 ^ 52:=ae
theorem KZ:double.signWeight=2 ^ 63:=ae
theorem tq {t kept:Nat} (h1:kept<=2 ^ 53) (h2:t=0\/2 ^ 52<=kept) (h3:t<=1990):Rd (t * 2 ^ 52+kept) (kept * 2 ^ t):=by
 have hlt:t * 2 ^ 52+kept < 2047 * 2 ^ 52:=J
 unfold Rd Format.read
 simp only[xm,wu,C6,KZ]
 have e1:(t * 2 ^ 52+kept) / 2 ^ 63 % 2=0:=by rw[div_eq_of_lt J]
 have e2:(t * 2 ^ 52+kept) % 2 ^ 63=t * 2 ^ 52+kept:=mod_eq_of_lt J
 rw[e1,e2]
 by_cases ha:t * 2 ^ 52+kept < 2 ^ 52
 ·have ht:t=0:=J
  subst ht
  refine⟨kept,0,?_,J,J,rfl⟩
  rw[if_pos ha]
  simp
 ·rw[if_neg ha,if_pos hlt]
  by_cases hk:kept=2 ^ 53
  ·subst hk
   refine⟨2 ^ 52,t+1,?_,ae,J,by rw[Nat.pow_succ]; omega⟩
   have e3:(t * 2 ^ 52+2 ^ 53) % 2 ^ 52=0:=J
   have e4:(t * 2 ^ 52+2 ^ 53) / 2 ^ 52=t+2:=J
   rw[e3,e4]
   simp
   omega
  ·refine⟨kept,t,?_,J,J,rfl⟩
   have e3:(t * 2 ^ 52+kept) % 2 ^ 52=kept - 2 ^ 52:=J
   have e4:(t * 2 ^ 52+kept) / 2 ^ 52=t+1:=J
   rw[e3,e4]
   simp
   omega
theorem US (n:Nat):Toward.even.cut false n 0=n:=by
 simp[Toward.cut,mod_one]
theorem T2 {n d:Nat} (hd:d<=n.log2+2):2 * (Toward.even.cut false n d * 2 ^ d)<=2 * n+2 ^ d/\2 * n<=2 * (Toward.even.cut false n d * 2 ^ d)+2 ^ d/\n / 2 ^ d<=Toward.even.cut false n d/\Toward.even.cut false n d<=n / 2 ^ d+1:=by
 have hg:(1:Nat) <<< min d (n.log2+2)=2 ^ d:=by rw[min_eq_left hd,Nat.one_shiftLeft]
 have hdm:=Nat.div_add_mod n (2 ^ d)
 have hml:=mod_lt n (two_pow_pos d)
 rw[mul_comm] at hdm
 unfold Toward.cut
 simp only[hg]
 generalize n / 2 ^ d=q at *
 generalize n % 2 ^ d=r at *
 generalize 2 ^ d=g at *
 by_cases h:(decide (g < 2 * r) || g == 2 * r && q % 2 == 1)=true
 ·rw[h]
  simp only[Bool.or_eq_true,decide_eq_true_eq,Bool.and_eq_true,beq_iff_eq] at h
  rw[Bool.toNat_true,add_mul,one_mul]
  omega
 ·rw[Bool.not_eq_true] at h
  rw[h]
  simp only[Bool.or_eq_false_iff,decide_eq_false_iff_not,Bool.and_eq_false_iff,beq_eq_false_iff_ne] at h
  rw[Bool.toNat_false,add_zero]
  omega
theorem ac3 {K M g:Nat} (c1:2 * K<=2 * M+g) (c2:2 * M<=2 * K+g) (hg:2 ^ 52 * g<=M):K * 2 ^ 53<=M * 2 ^ 53+M/\M * 2 ^ 53<=K * 2 ^ 53+M:=J
theorem adl {M D n:Nat} (g1:M<=2 * D+n) (g2:2 * D<=M+n) (hb:2 ^ 53 * n<=D):M * 2 ^ 53<=2 * D * 2 ^ 53+2 * D/\2 * D * 2 ^ 53<=M * 2 ^ 53+2 * D:=J
theorem Mt {n a b c:Nat} (h:n < 2 ^ a) (hc:a+b<=c):n * 2 ^ b < 2 ^ c:=by
 have h1:n * 2 ^ b < 2 ^ a * 2 ^ b:=Nat.mul_lt_mul_of_pos_right h (two_pow_pos b)
 rw[<-pow_add] at h1
 exact lt_of_lt_of_le h1 (pow_le_pow_right ae hc)
theorem pK {a b c:Nat} (h:c=a+b):2 ^ c=2 ^ a * 2 ^ b:=by rw[h,pow_add]
theorem T1 {a b c d:Nat} (h:a+b=c+d):2 ^ a * 2 ^ b=2 ^ c * 2 ^ d:=by rw[<-pow_add,<-pow_add,h]
theorem S7 {a b c:Nat} (h:a * c < b * c):a < b:=Nat.lt_of_mul_lt_mul_right h
theorem sL {k:Nat} (h:2 ^ k<=0):False:=absurd h (Nat.not_le_of_gt (two_pow_pos k))
theorem ple {a b:Nat} (h:a<=b):2 ^ a<=2 ^ b:=pow_le_pow_right ae h
theorem km {a b:Nat} (h:2 ^ a < 2 ^ b):a < b:=(Nat.pow_lt_pow_iff_right ae).1 h
theorem abG {i u mo q:Nat} (h:i+u=mo+1+q):2 ^ i * 2 ^ u=2 * 2 ^ mo * 2 ^ q:=by
 rw[<-pow_add,show (2:Nat) * 2 ^ mo=2 ^ (mo+1) by rw[Nat.pow_succ,mul_comm],<-pow_add,h]
theorem qJ {mag p:Nat} (h:mag * 2 ^ p < 2 ^ 2000):∃R,Rd (double.nearest false mag ((p:Int) - 1074)) R/\vR R (mag * 2 ^ p):=by
 by_cases h0:mag=0
 ·subst h0
  refine⟨0,?_,by rw[zero_mul]; exact sA 0⟩
  have:double.nearest false 0 ((p:Int) - 1074)=0 * 2 ^ 52+0:=by simp[Format.nearest,Format.word]
  rw[this]
  have:=tq (t:=0) (kept:=0) ae (.inl rfl) ae
  simpa using this
 have hl1:2 ^ mag.log2<=mag:=Nat.log2_self_le h0
 have hl2:mag < 2 ^ (mag.log2+1):=Nat.lt_log2_self
 generalize hlog:mag.log2=lg at *
 have hlp:lg+p < 2000:=by
  apply km
  rw[pow_add]
  exact lt_of_le_of_lt (mul_le_mul_right _ hl1) h
 have hlast:max ((p:Int) - 1074+lg - 52) (-1074)=((p+lg - 52:Nat):Int) - 1074:=J
 have hnear:double.nearest false mag ((p:Int) - 1074)=min ((p+lg - 52) * 2 ^ 52+Toward.even.cut false (mag <<< (p - (p+lg - 52))) (p+lg - 52 - p)) (2047 * 2 ^ 52):=by
  unfold Format.nearest
  rw[if_neg h0]
  simp only[xm,wu,C6,hlog]
  have hf:(double.fractionBits:Int)=52:=rfl
  rw[hf,hlast]
  have e1:((((p+lg - 52:Nat):Int) - 1074) - -1074).toNat=p+lg - 52:=J
  have e2:((p:Int) - 1074 - (((p+lg - 52:Nat):Int) - 1074)).toNat=p - (p+lg - 52):=J
  have e3:((((p+lg - 52:Nat):Int) - 1074) - ((p:Int) - 1074)).toNat=p+lg - 52 - p:=J
  rw[e1,e2,e3]
  simp[Format.word]
 rw[hnear]
 generalize ht:p+lg - 52=t
 by_cases hc:t<=p
 ·
  rw[show t - p=0 from J,US,Nat.shiftLeft_eq]
  have hk1:mag * 2 ^ (p - t) < 2 ^ 53:=by
   have:mag * 2 ^ (p - t) < 2 ^ (lg+1) * 2 ^ (p - t):=Nat.mul_lt_mul_of_pos_right hl2 (two_pow_pos _)
   rw[<-pow_add] at this
   exact lt_of_lt_of_le this (pow_le_pow_right ae J)
  have hk2:t=0\/2 ^ 52<=mag * 2 ^ (p - t):=by
   by_cases h00:t=0
   ·exact .inl h00
   ·refine .inr ?_
    have:2 ^ lg * 2 ^ (p - t)<=mag * 2 ^ (p - t):=mul_le_mul_right _ hl1
    rw[<-pow_add] at this
    rwa [show lg+(p - t)=52 from J] at this
  have hR:=tq (t:=t) (kept:=mag * 2 ^ (p - t)) J hk2 J
  rw[min_eq_left J]
  refine⟨_,hR,?_⟩
  rw[mul_assoc,<-pow_add,show p - t+t=p from J]
  exact sA _
 ·rw[show p - t=0 from J,Nat.shiftLeft_zero,show t - p=lg - 52 from J]
  have hlg:52 < lg:=J
  obtain⟨c1,c2,c3,c4⟩:=T2 (n:=mag) (d:=lg - 52) (by rw[hlog]; omega)
  generalize Toward.even.cut false mag (lg - 52)=kept at *
  have hq1:2 ^ 52<=mag / 2 ^ (lg - 52):=by
   rw[Nat.le_div_iff_mul_le (two_pow_pos _),<-pow_add,show 52+(lg - 52)=lg from J]; exact hl1
  have hq2:mag / 2 ^ (lg - 52) < 2 ^ 53:=by
   rw[div_lt_iff_lt_mul (two_pow_pos _),<-pow_add,show 53+(lg - 52)=lg+1 from J]; exact hl2
  have hR:=tq (t:=t) (kept:=kept) J (.inr J) J
  rw[min_eq_left J]
  refine⟨_,hR,?_⟩
  rw[show t=(lg - 52)+p from J,pow_add,<-mul_assoc]
  have hg:2 ^ 52 * 2 ^ (lg - 52)<=mag:=by rw[<-pow_add,show 52+(lg - 52)=lg from J]; exact hl1
  generalize kept * 2 ^ (lg - 52)=K at *
  generalize 2 ^ (lg - 52)=g at *
  obtain⟨d1,d2⟩:=ac3 c1 c2 hg
  constructor
  ·have:=mul_le_mul_right (2 ^ p) d1
   rw[add_mul] at this
   rw[mul_right_comm K,mul_right_comm mag]; exact this
  ·have:=mul_le_mul_right (2 ^ p) d2
   rw[add_mul] at this
   rw[mul_right_comm K,mul_right_comm mag]; exact this
theorem Qi {n:Nat} (h:n < 2 ^ 900):∃R,Rd (floatOfInt .f64 n) R/\vR R (n * UU):=by
 have h1:n * 2 ^ 1074 < 2 ^ 2000:=Mt (a:=900) (b:=1074) (c:=2000) h J
 obtain⟨R,h2,h3⟩:=qJ (mag:=n) (p:=1074) h1
 refine⟨R,?_,by rw[lT]; exact h3⟩
 have:floatOfInt .f64 n=double.nearest false n (((1074:Nat):Int) - 1074):=by
  have hd:decide ((n:Int) < 0)=false:=by simp
  simp[floatOfInt,FloatKind.nearest,FloatKind.encode,FloatKind.format,Format.write,hd]
 rw[this]; exact h2
theorem aaB {x y R S:Nat} (hx:Rd x R) (hy:Rd y S) (h:R+S < 2 ^ 2000):∃r T,double.add x y=some r/\Rd r T/\vR T (R+S):=by
 obtain⟨m,i,h1,_,_,rfl⟩:=hx
 obtain⟨n,j,h2,_,_,rfl⟩:=hy
 have hsum:double.add x y=some (double.nearest false (m * 2 ^ (i - min i j)+n * 2 ^ (j - min i j)) (((min i j:Nat):Int) - 1074)):=by
  unfold Format.add
  rw[h1,h2]
  have hb:min ((i:Int) - 1074) ((j:Int) - 1074)=((min i j:Nat):Int) - 1074:=by
   rcases Nat.le_total i j with h|h
   ·rw[min_eq_left h,Int.min_eq_left J]
   ·rw[Nat.min_eq_right h,Int.min_eq_right J]
  simp only[Datum.sum,hb,signed,false_eq_true,if_false,Nat.shiftLeft_eq,Bool.and_false,map_some,Format.write]
  rw[show ((i:Int) - 1074 - (((min i j:Nat):Int) - 1074)).toNat=i - min i j from J,show ((j:Int) - 1074 - (((min i j:Nat):Int) - 1074)).toNat=j - min i j from J]
  have hn:((m * 2 ^ (i - min i j):Nat):Int)+((n * 2 ^ (j - min i j):Nat):Int)=((m * 2 ^ (i - min i j)+n * 2 ^ (j - min i j):Nat):Int):=by rw[Int.natCast_add]
  rw[hn]
  have hd:decide (((m * 2 ^ (i - min i j)+n * 2 ^ (j - min i j):Nat):Int) < 0)=false:=ak (Int.not_lt.2 (Int.natCast_nonneg _))
  have hs:(if ((m * 2 ^ (i - min i j)+n * 2 ^ (j - min i j):Nat):Int)=0 then false else decide (((m * 2 ^ (i - min i j)+n * 2 ^ (j - min i j):Nat):Int) < 0))=false:=by
   split
   ·rfl
   ·exact hd
  rw[hs,Int.natAbs_natCast]
 have he:(m * 2 ^ (i - min i j)+n * 2 ^ (j - min i j)) * 2 ^ (min i j)=m * 2 ^ i+n * 2 ^ j:=by
  rw[add_mul,mul_assoc,mul_assoc,<-pow_add,<-pow_add,show i - min i j+min i j=i from J,show j - min i j+min i j=j from J]
 obtain⟨T,h3,h4⟩:=qJ (mag:=m * 2 ^ (i - min i j)+n * 2 ^ (j - min i j)) (p:=min i j) (by rw[he]; exact h)
 rw[he] at h4
 exact⟨_,T,hsum,h3,h4⟩
theorem sB (z:Int):Rd (double.nearest false 0 z) 0:=by
 have:double.nearest false 0 z=0 * 2 ^ 52+0:=by simp[Format.nearest,Format.word]
 rw[this]
 have:=tq (t:=0) (kept:=0) ae (.inl rfl) ae
 simpa using this
theorem GS {m k:Nat} (h:m < 2 ^ 53) (h2:2 ^ 1000<=m * 2 ^ k):948<=k:=by
 have:2 ^ 1000 < 2 ^ (53+k):=by
  rw[pow_add]
  exact lt_of_le_of_lt h2 (Nat.mul_lt_mul_of_pos_right h (two_pow_pos _))
 have:=km this
 omega
theorem Z4 {x y R S L:Nat} (hL:L=2 ^ 2000) (hx:Rd x R) (hy:Rd y S) (h1:R=0\/2 ^ 1000<=R) (h2:2 ^ 1000<=S) (h:R * S < L * UU):∃r T N,double.mul x y=some r/\Rd r T/\vR T N/\N * UU=R * S:=by
 obtain⟨m,i,e1,m1,_,rfl⟩:=hx
 obtain⟨n,j,e2,m2,_,rfl⟩:=hy
 have hp:double.mul x y=some (double.nearest false (m * n) ((i:Int) - 1074+((j:Int) - 1074))):=by
  unfold Format.mul
  rw[e1,e2]
  simp[Datum.product,Format.write]
 rcases h1 with h1|h1
 ·have hm:m=0:=by
   rcases eq_zero_or_pos m with h|h
   ·exact h
   ·have:=mul_pos h (two_pow_pos i); omega
  subst hm
  refine⟨_,0,0,hp,?_,sA 0,by simp⟩
  rw[zero_mul]; exact sB _
 ·have k1:=GS m1 h1
  have k2:=GS m2 h2
  have hpl:(i:Int) - 1074+((j:Int) - 1074)=((i+j - 1074:Nat):Int) - 1074:=J
  have hN:m * n * 2 ^ (i+j - 1074) * UU=m * 2 ^ i * (n * 2 ^ j):=by
   rw[lT]
   rw[mul_assoc (m * n),T1 (show i+j - 1074+1074=i+j from J)]
   simp only[mul_assoc,mul_left_comm,mul_comm]
  have hlt:m * n * 2 ^ (i+j - 1074) < L:=by
   rw[<-hN] at h
   exact S7 h
  rw[hL] at hlt
  obtain⟨T,h3,h4⟩:=qJ hlt
  rw[hpl] at hp
  exact⟨_,T,_,hp,h3,h4,hN⟩
theorem ZY {x y R S:Nat} (hx:Rd x R) (hy:Rd y S) (h1:R=0\/2 ^ 1000<=R) (h2:2 ^ 1000<=S) (hR:R < UU * 2 ^ 100) (hS:S < UU * 2 ^ 100):∃r T N,double.div x y=some r/\Rd r T/\vR T N/\N * S * 2 ^ 53<=R * UU * 2 ^ 53+R * UU/\R * UU * 2 ^ 53<=N * S * 2 ^ 53+R * UU:=by
 obtain⟨m,i,e1,m1,_,rfl⟩:=hx
 obtain⟨n,j,e2,m2,_,rfl⟩:=hy
 have hn0:n ≠ 0:=by
  rintro rfl
  rw[zero_mul] at h2
  exact sL h2
 have hp:double.div x y=some (double.nearest false (2 * (m <<< (54+n.log2 - m.log2) / n)+(m <<< (54+n.log2 - m.log2) % n != 0).toNat) ((i:Int) - 1074 - ((j:Int) - 1074) - ((54+n.log2 - m.log2:Nat):Int) - 1)):=by
  unfold Format.div
  rw[e1,e2]
  simp[Datum.quotient,Format.write,hn0]
  rfl
 rcases h1 with h1|h1
 ·have hm:m=0:=by
   rcases eq_zero_or_pos m with h|h
   ·exact h
   ·have:=mul_pos h (two_pow_pos i); omega
  subst hm
  refine⟨_,0,0,hp,?_,sA 0,by simp,by simp⟩
  have:(2 * ((0:Nat) <<< (54+n.log2 - (0:Nat).log2) / n)+((0:Nat) <<< (54+n.log2 - (0:Nat).log2) % n != 0).toNat)=0:=by simp
  rw[this]; exact sB _
 ·have hm0:m ≠ 0:=by
   rintro rfl
   rw[zero_mul] at h1
   exact sL h1
  have k1:=GS m1 h1
  have k2:=GS m2 h2
  have k3:i < 1174:=by
   apply km
   have:2 ^ i<=m * 2 ^ i:=Nat.le_mul_of_pos_left _ J
   have e:UU * 2 ^ 100=2 ^ 1174:=by rw[lT]; exact (pK (a:=1074) (b:=100) (c:=1174) rfl).symm
   omega
  have k4:j < 1174:=by
   apply km
   have:2 ^ j<=n * 2 ^ j:=Nat.le_mul_of_pos_left _ J
   have e:UU * 2 ^ 100=2 ^ 1174:=by rw[lT]; exact (pK (a:=1074) (b:=100) (c:=1174) rfl).symm
   omega
  have lm1:=Nat.log2_self_le hm0
  have ln1:=Nat.log2_self_le hn0
  have lm2:m < 2 ^ (m.log2+1):=Nat.lt_log2_self
  have ln2:n < 2 ^ (n.log2+1):=Nat.lt_log2_self
  have b1:m.log2 < 53:=km (lt_of_le_of_lt lm1 m1)
  have b2:n.log2 < 53:=km (lt_of_le_of_lt ln1 m2)
  generalize m.log2=lm at *
  generalize n.log2=ln at *
  generalize hmo:54+ln - lm=mo at *
  have hD:m <<< mo=m * 2 ^ mo:=Nat.shiftLeft_eq ..
  rw[hD] at hp
  have hdm:=Nat.div_add_mod (m * 2 ^ mo) n
  have hml:=mod_lt (m * 2 ^ mo) (pos_of_ne_zero hn0)
  have hbig:2 ^ 53 * n<=m * 2 ^ mo:=by
   have e1:2 ^ lm * 2 ^ mo<=m * 2 ^ mo:=mul_le_mul_right _ lm1
   rw[<-pow_add,show lm+mo=53+(ln+1) from J,pow_add] at e1
   exact le_trans (mul_le_mul_left _ (le_of_lt ln2)) e1
  have hsm:m * 2 ^ mo < 2 ^ 160:=by
   have e1:m * 2 ^ mo < 2 ^ (lm+1) * 2 ^ mo:=Nat.mul_lt_mul_of_pos_right lm2 (two_pow_pos _)
   rw[<-pow_add] at e1
   exact lt_of_lt_of_le e1 (pow_le_pow_right ae J)
  have hpl:(i:Int) - 1074 - ((j:Int) - 1074) - (mo:Int) - 1=((i+1073 - j - mo:Nat):Int) - 1074:=J
  generalize hp':i+1073 - j - mo=p at *
  rw[hpl] at hp
  generalize hmag:2 * (m * 2 ^ mo / n)+(m * 2 ^ mo % n != 0).toNat=mag at *
  have hmg:mag * n<=2 * (m * 2 ^ mo)+n/\2 * (m * 2 ^ mo)<=mag * n+n/\mag<=2 * (m * 2 ^ mo)+1:=by
   have hle:m * 2 ^ mo / n<=m * 2 ^ mo:=div_le_self ..
   generalize m * 2 ^ mo / n=q at *
   generalize m * 2 ^ mo % n=rr at *
   generalize m * 2 ^ mo=D at *
   rw[mul_comm n q] at hdm
   rw[<-hmag,add_mul,mul_assoc]
   by_cases h:rr=0
   ·subst h
    simp only[bne_self_eq_false,Bool.toNat_false,zero_mul]
    omega
   ·have:(rr != 0)=true:=by simp[h]
    rw[this,Bool.toNat_true,one_mul]
    omega
  have hov:mag * 2 ^ p < 2 ^ 2000:=by
   have e1:mag < 2 ^ 162:=J
   exact Mt (a:=162) (b:=p) (c:=2000) e1 J
  obtain⟨T,h3,h4⟩:=qJ hov
  refine⟨_,T,_,hp,h3,h4,?_⟩
  have hE:m * 2 ^ i * UU=2 * (m * 2 ^ mo) * 2 ^ (p+j):=by
   rw[lT]
   have:=abG (i:=i) (u:=1074) (mo:=mo) (q:=p+j) J
   rw[mul_assoc,this]
   simp only[mul_assoc,mul_left_comm,mul_comm]
  have hF:mag * 2 ^ p * (n * 2 ^ j)=mag * n * 2 ^ (p+j):=by
   rw[pow_add]
   simp only[mul_assoc,mul_left_comm,mul_comm]
  rw[hE,hF]
  obtain⟨g1,g2,_⟩:=hmg
  generalize mag * n=M at *
  generalize m * 2 ^ mo=D at *
  generalize 2 ^ (p+j)=G at *
  obtain⟨d1,d2⟩:=adl g1 g2 hbig
  constructor
  ·have:=mul_le_mul_right G d1
   rw[add_mul] at this
   rw[mul_right_comm M,mul_right_comm (2 * D)]; exact this
  ·have:=mul_le_mul_right G d2
   rw[add_mul] at this
   rw[mul_right_comm M,mul_right_comm (2 * D)]; exact this
theorem TJ {x R:Nat} (hx:Rd x R):(double.read x).toInt .zero=some ((R / UU:Nat):Int):=by
 obtain⟨m,k,h1,h2,h3,rfl⟩:=hx
 rw[h1]
 simp only[Datum.toInt,Datum.integral,signed,false_eq_true,if_false,Nat.shiftLeft_zero,Toward.cut]
 congr 2
 simp only[Bool.toNat_false,add_zero,Nat.shiftLeft_eq,one_mul]
 rw[lT]
 rcases lt_or_ge k 1074 with hk|hk
 ·rw[show ((k:Int) - 1074).toNat=0 from J,show (-((k:Int) - 1074)).toNat=1074 - k from J,Nat.pow_zero,Nat.mul_one]
  have he:m * 2 ^ k / 2 ^ 1074=m / 2 ^ (1074 - k):=by
   rw[show (1074:Nat)=k+(1074 - k) from J,pow_add,<-Nat.div_div_eq_div_mul,Nat.mul_div_cancel _ (two_pow_pos _),show k+(1074 - k) - k=1074 - k from J]
  rw[he]
  rcases Nat.le_total (1074 - k) (m.log2+2) with h|h
  ·rw[min_eq_left h]
  ·rw[Nat.min_eq_right h]
   have e1:m < 2 ^ (m.log2+2):=lt_of_lt_of_le Nat.lt_log2_self (pow_le_pow_right ae J)
   rw[div_eq_of_lt e1,div_eq_of_lt (lt_of_lt_of_le e1 (pow_le_pow_right ae h))]
 ·rw[show (-((k:Int) - 1074)).toNat=0 from J,show ((k:Int) - 1074).toNat=k - 1074 from J,Nat.zero_min,Nat.pow_zero,div_one]
  rw[show k=(k - 1074)+1074 from J,pow_add,<-mul_assoc,Nat.mul_div_cancel _ (two_pow_pos 1074),Nat.add_sub_cancel]
theorem kW:0 < UU:=by rw[lT]; exact two_pow_pos 1074
theorem Ow:UU=GG * 2 ^ 74:=by rw[lT,xi]; exact pK (a:=1000) (b:=74) (c:=1074) rfl
theorem abe:LL=UU * 2 ^ 120 * 2 ^ 806:=by
 rw[Kj,lT,<-pK (a:=1074) (b:=120) (c:=1194) rfl]
 exact pK (a:=1194) (b:=806) (c:=2000) rfl
theorem Y6 {x y R S:Nat} (hx:Rd x R) (hy:Rd y S) (h:R+S < LL):∃r T,double.add x y=some r/\Rd r T/\vR T (R+S):=aaB hx hy (by rw[Kj] at h; exact h)
theorem XU {x y R S:Nat} (hx:Rd x R) (hy:Rd y S) (h1:R=0\/GG<=R) (h2:GG<=S) (h:R * S < LL * UU):∃r T N,double.mul x y=some r/\Rd r T/\vR T N/\N * UU=R * S
 := Z4 Kj hx hy (by rw[xi] at h1; exact h1) (by rw[xi] at h2; exact h2) h
theorem YJ {x y R S:Nat} (hx:Rd x R) (hy:Rd y S) (h1:R=0\/GG<=R) (h2:GG<=S) (hR:R < UU * 2 ^ 100) (hS:S < UU * 2 ^ 100):∃r T N,double.div x y=some r/\Rd r T/\vR T N/\N * S * 2 ^ 53<=R * UU * 2 ^ 53+R * UU/\R * UU * 2 ^ 53<=N * S * 2 ^ 53+R * UU:=ZY hx hy (by rw[xi] at h1; exact h1) (by rw[xi] at h2; exact h2) hR hS
end DW

namespace DW
open Ieee
def Ap (c x V:Nat):Prop:=∃R,Rd x R/\R * 2 ^ 60<=V * 2 ^ 60+c * V/\V * 2 ^ 60<=R * 2 ^ 60+c * V
theorem Im {T N V c:Nat} (h1:T * 2 ^ 53<=N * 2 ^ 53+N) (h2:N * 2 ^ 53<=T * 2 ^ 53+N) (h3:N * 2 ^ 60<=V * 2 ^ 60+c * V) (h4:V * 2 ^ 60<=N * 2 ^ 60+c * V) (hc:c<=2 ^ 50):T * 2 ^ 60<=V * 2 ^ 60+(c+129) * V/\V * 2 ^ 60<=T * 2 ^ 60+(c+129) * V:=by
 have hcv:c * V<=2 ^ 50 * V:=mul_le_mul_right _ hc
 rw[add_mul]
 generalize c * V=z at *
 omega
theorem uy {n:Nat} (h:n < 2 ^ 900):Ap 128 (floatOfInt .f64 n) (n * UU):=by
 obtain⟨R,h1,h2,h3⟩:=Qi h
 refine⟨R,h1,?_⟩
 clear h1 h
 generalize n * UU=V at *
 omega
theorem YD (x:Nat) {a b c U:Nat} (hu:U=2 ^ c) (e:c=a+b):x * U=x * 2 ^ a * 2 ^ b:=by rw[hu,e,pow_add,mul_assoc]
theorem YG:Rd 4741671816366391296 (1000000000 * UU):=by
 refine⟨1000000000 * 2 ^ 23,1051,by decide +kernel,ae,ae,?_⟩
 have e:=YD 1000000000 (a:=23) (b:=1051) (c:=1074) lT rfl
 exact e
theorem LD {V:Nat} (h:V < UU * 2 ^ 120):4 * V < LL:=by
 rw[abe]
 have h2:UU * 2 ^ 120 * 2 ^ 2<=UU * 2 ^ 120 * 2 ^ 806:=mul_le_mul_left _ (ple (a:=2) (b:=806) J)
 refine lt_of_lt_of_le ?_ h2
 clear h2
 omega
theorem la {R V z:Nat} (h2:R * 2 ^ 60<=V * 2 ^ 60+z) (h3:V * 2 ^ 60<=R * 2 ^ 60+z) (hz:z<=2 ^ 50 * V):R<=2 * V/\V<=2 * R:=J
theorem lb {u g V R:Nat} (e1:u<=V) (e2:u=g * 2 ^ 74) (hb:V<=2 * R):g<=R:=J
theorem lc {u g:Nat} (e2:u=g * 2 ^ 74):g<=1000000000 * u:=J
theorem ld {R V u:Nat} (hb:R<=2 * V) (e1:V<=2 ^ 80 * u) (h:0 < u):R * 1000000000 < u * 2 ^ 120:=J
theorem le4 {a b:Nat} (h:4 * a < b):a < b:=J
theorem lf {R V z:Nat} (h2:R * 2 ^ 60<=V * 2 ^ 60+z):R * 1000000000 * 2 ^ 60<=V * 1000000000 * 2 ^ 60+z * 1000000000:=by
 have:=mul_le_mul_right 1000000000 h2
 rw[add_mul] at this
 rw[mul_right_comm R,mul_right_comm V]
 exact this
theorem lg {R S V W u:Nat} (h2:R<=2 * V) (h3:S<=2 * W) (e1:V<=2 ^ 110 * u) (e2:W<=2 ^ 110 * u) (h:0 < u):R+S < u * 2 ^ 120:=J
theorem lh {R S V W x y z:Nat} (h1:R * 2 ^ 60<=V * 2 ^ 60+x) (h2:S * 2 ^ 60<=W * 2 ^ 60+y) (h3:y<=z):(R+S) * 2 ^ 60<=(V+W) * 2 ^ 60+(x+z):=by
 have:=Nat.add_le_add h1 (le_trans h2 (Nat.add_le_add_left h3 _))
 rw[Nat.add_add_add_comm] at this
 rw[add_mul,add_mul]
 exact this
theorem li {R V z u:Nat} (h2:R<=2 * V) (e1:V<=2 ^ 95 * u) (h:0 < u):R < u * 2 ^ 100:=J
theorem Wr {v R:Nat} (hb:R<=2 * (v * UU)/\v * UU<=2 * R):R=0\/GG<=R:=by
 by_cases hv0:v=0
 ·subst hv0
  rw[zero_mul] at hb
  exact .inl (Nat.le_zero.1 hb.1)
 ·exact .inr (lb (Nat.le_mul_of_pos_left _ (pos_of_ne_zero hv0)) Ow hb.2)
theorem BJ {c x v:Nat} (hc:c<=2 ^ 50) (h:Ap c x (v * UU)) (hv:v < 2 ^ 80):∃r,floatBits .mul .f64 x 4741671816366391296=some r/\Ap (c+129) r (v * 1000000000 * UU):=by
 obtain⟨R,h1,h2,h3⟩:=h
 have hb:=la h2 h3 (mul_le_mul_right _ hc)
 have hlt:R * (1000000000 * UU) < LL * UU:=by
  rw[<-mul_assoc]
  exact Nat.mul_lt_mul_of_pos_right (le4 (LD (ld hb.1 (mul_le_mul_right _ (le_of_lt hv)) kW))) kW
 obtain⟨r,T,N,e1,e2,⟨e3,e4⟩,e5⟩:=XU h1 YG (Wr hb) (lc Ow) hlt
 refine⟨r,e1,T,e2,?_⟩
 have hN:N=R * 1000000000:=by
  rw[<-mul_assoc] at e5
  exact Nat.eq_of_mul_eq_mul_right kW e5
 rw[hN] at e3 e4
 have hV:v * 1000000000 * UU=v * UU * 1000000000:=mul_right_comm ..
 rw[hV]
 have d1:=lf h2
 have d2:=lf h3
 rw[mul_assoc c] at d1 d2
 exact Im e3 e4 d1 d2 hc
theorem Kd {c x v d y w:Nat} (hc:c<=2 ^ 50) (hdc:d<=c) (h:Ap c x (v * UU)) (h':Ap d y (w * UU)) (hv:v < 2 ^ 110) (hw:w < 2 ^ 110):∃r,floatBits .add .f64 x y=some r/\Ap (c+129) r ((v+w) * UU):=by
 obtain⟨R,h1,h2,h3⟩:=h
 obtain⟨S,g1,g2,g3⟩:=h'
 have hb:=la h2 h3 (mul_le_mul_right _ hc)
 have hb':=la g2 g3 (mul_le_mul_right _ (le_trans hdc hc))
 have hlt:R+S < LL:=le4 (LD (lg hb.1 hb'.1 (mul_le_mul_right _ (le_of_lt hv)) (mul_le_mul_right _ (le_of_lt hw)) kW))
 obtain⟨r,T,e1,e2,e3,e4⟩:=Y6 h1 g1 hlt
 refine⟨r,e1,T,e2,?_⟩
 have hdw:d * (w * UU)<=c * (w * UU):=mul_le_mul_right _ hdc
 have d1:=lh h2 g2 hdw
 have d2:=lh h3 g3 hdw
 rw[<-mul_add] at d1 d2
 rw[add_mul v w]
 exact Im e3 e4 d1 d2 hc
theorem TV {T N S R V W U p q s t u:Nat} (h1:T * p<=N * q) (h2:N * S * p<=R * U * q) (h3:R * s<=V * t) (h4:W * u<=S * s):T * W * (p * p * s * u)<=V * U * (q * q * t * s):=by
 have a1:=Nat.mul_le_mul h1 h4
 have a2:=mul_le_mul_right (q * s) h2
 have a3:=mul_le_mul_right (U * q * q * s) h3
 have b1:T * p * (W * u) * (p * s)<=N * q * (S * s) * (p * s):=mul_le_mul_right _ a1
 have b2:N * S * p * (q * s) * s<=R * U * q * (q * s) * s:=mul_le_mul_right _ a2
 have e1:T * W * (p * p * s * u)=T * p * (W * u) * (p * s):=by ac_rfl
 have e2:N * q * (S * s) * (p * s)=N * S * p * (q * s) * s:=by ac_rfl
 have e3:R * U * q * (q * s) * s=R * s * (U * q * q * s):=by ac_rfl
 have e4:V * t * (U * q * q * s)=V * U * (q * q * t * s):=by ac_rfl
 rw[e1,<-e4]
 rw[e2] at b1
 rw[e3] at b2
 exact le_trans b1 (le_trans b2 a3)
theorem Vk {T N S R V W U p q s t u:Nat} (h1:N * q<=T * p) (h2:R * U * q<=N * S * p) (h3:V * t<=R * s) (h4:S * s<=W * u):V * U * (t * q * q)<=T * W * (p * p * u):=by
 have b1:V * t * (U * q)<=R * s * (U * q):=mul_le_mul_right _ h3
 have b2:R * U * q * (s * q)<=N * S * p * (s * q):=mul_le_mul_right _ h2
 have b3:N * q * (S * s)<=T * p * (W * u):=Nat.mul_le_mul h1 h4
 have g1:V * U * (t * q * q)=V * t * (U * q) * q:=by ac_rfl
 have g2:R * s * (U * q) * q=R * U * q * (s * q):=by ac_rfl
 have g3:N * S * p * (s * q)=N * q * (S * s) * p:=by ac_rfl
 have g4:T * W * (p * p * u)=T * p * (W * u) * p:=by ac_rfl
 rw[g1,g4]
 refine le_trans (mul_le_mul_right _ b1) ?_
 rw[g2]
 refine le_trans b2 ?_
 rw[g3]
 exact mul_le_mul_right _ b3
theorem QW {X Y w U k l:Nat} (hU:0 < U) (h:X * (w * U) * k<=Y * U * U * l):X * w * k<=Y * U * l:=by
 have b1:X * w * k * U=X * (w * U) * k:=by ac_rfl
 have b2:Y * U * l * U=Y * U * U * l:=by ac_rfl
 exact Nat.le_of_mul_le_mul_right (by rw[b1,b2]; exact h) hU
theorem RK {X Y w U k l:Nat} (hU:0 < U) (h:Y * U * U * k<=X * (w * U) * l):Y * U * k<=X * w * l:=by
 have b1:X * w * l * U=X * (w * U) * l:=by ac_rfl
 have b2:Y * U * k * U=Y * U * U * k:=by ac_rfl
 exact Nat.le_of_mul_le_mul_right (by rw[b1,b2]; exact h) hU
theorem Fe {X Y k l:Nat} (h:X * k<=Y * l) (hk:0 < k) (hl:l * 2 ^ 40<=k * (2 ^ 40+1)):X * 2 ^ 40<=Y * (2 ^ 40+1):=by
 have h1:X * k * 2 ^ 40<=Y * l * 2 ^ 40:=mul_le_mul_right _ h
 have h2:Y * (l * 2 ^ 40)<=Y * (k * (2 ^ 40+1)):=mul_le_mul_left _ hl
 rw[<-mul_assoc] at h2
 have h3:X * 2 ^ 40 * k<=Y * (2 ^ 40+1) * k:=by
  rw[mul_right_comm X,mul_assoc Y,mul_comm (2 ^ 40+1) k]
  exact le_trans h1 h2
 exact Nat.le_of_mul_le_mul_right h3 hk
theorem lj {T N:Nat} (h:T * 2 ^ 53<=N * 2 ^ 53+N):T * 2 ^ 53<=N * (2 ^ 53+1):=J
theorem lk {T N:Nat} (h:N * 2 ^ 53<=T * 2 ^ 53+N):N * (2 ^ 53 - 1)<=T * 2 ^ 53:=by
 rw[Nat.mul_sub,Nat.mul_one]; exact Nat.sub_le_iff_le_add.2 h
theorem ll1 {R V:Nat} (h:R * 2 ^ 60<=V * 2 ^ 60+1024 * V):R * 2 ^ 60<=V * (2 ^ 60+1024):=by
 rw[mul_add,mul_comm V 1024]; exact h
theorem ll2 {R V:Nat} (h:V * 2 ^ 60<=R * 2 ^ 60+1024 * V):V * (2 ^ 60 - 1024)<=R * 2 ^ 60:=by
 rw[Nat.mul_sub,mul_comm V 1024]; exact Nat.sub_le_iff_le_add.2 h
theorem aaX {x v y w:Nat} (h:Ap 1024 x (v * UU)) (h':Ap 1024 y (w * UU)) (hv:v < 2 ^ 95) (hw:w < 2 ^ 95) (hw0:0 < w):∃r T,floatBits .quo .f64 x y=some r/\Rd r T/\T * w * 2 ^ 40<=v * UU * (2 ^ 40+1)/\v * UU * 2 ^ 40<=T * w * (2 ^ 40+1):=by
 obtain⟨R,h1,h2,h3⟩:=h
 obtain⟨S,g1,g2,g3⟩:=h'
 have hb:=la h2 h3 (mul_le_mul_right _ ae)
 have hb':=la g2 g3 (mul_le_mul_right _ ae)
 have hS:GG<=S:=lb (Nat.le_mul_of_pos_left _ hw0) Ow hb'.2
 have hR2:R < UU * 2 ^ 100:=li (z:=0) hb.1 (mul_le_mul_right _ (le_of_lt hv)) kW
 have hS2:S < UU * 2 ^ 100:=li (z:=0) hb'.1 (mul_le_mul_right _ (le_of_lt hw)) kW
 obtain⟨r,T,N,e1,e2,⟨e3,e4⟩,e5,e6⟩:=YJ h1 g1 (Wr hb) hS hR2 hS2
 refine⟨r,T,e1,e2,?_⟩
 constructor
 ·exact QW kW (Fe (TV (lj e3) (lj e5) (ll1 h2) (ll2 g3)) ae ae)
 ·exact RK kW (Fe (Vk (lk e4) (lk e6) (ll2 h3) (ll1 g2)) ae ae)
theorem acZ {g T u X Y q:Nat} (hu:0 < u) (hg:g * u<=T) (h:T * Y * 2 ^ 40<=X * u * (2 ^ 40+1)) (hX:X<=2 ^ 31 * Y) (hq:X < (q+2) * Y):g < q+3:=by
 have h1:g * Y * 2 ^ 40 * u<=X * (2 ^ 40+1) * u:=by
  have e1:g * Y * 2 ^ 40 * u=g * u * (Y * 2 ^ 40):=by ac_rfl
  have e2:X * (2 ^ 40+1) * u=X * u * (2 ^ 40+1):=by ac_rfl
  rw[e1,e2]
  refine le_trans (mul_le_mul_right _ hg) ?_
  rw[<-mul_assoc]; exact h
 have h2:=Nat.le_of_mul_le_mul_right h1 hu
 rw[mul_add,Nat.mul_one] at h2
 have h3:g * Y<=X+Y:=J
 have h4:g * Y < (q+3) * Y:=by rw[show q+3=(q+2)+1 from J,add_mul (q+2),one_mul]; omega
 exact Nat.lt_of_mul_lt_mul_right h4
theorem ac8 {g T u X Y q:Nat} (hu:0 < u) (hY:0 < Y) (hg:T<=(g+1) * u) (h:X * u * 2 ^ 40<=T * Y * (2 ^ 40+1)) (hq:q * Y<=X) (hq2:q < 2 ^ 31):q<=g+1:=by
 have h1:X * 2 ^ 40 * u<=(g+1) * Y * (2 ^ 40+1) * u:=by
  have e1:X * 2 ^ 40 * u=X * u * 2 ^ 40:=by ac_rfl
  have e2:(g+1) * Y * (2 ^ 40+1) * u=(g+1) * u * (Y * (2 ^ 40+1)):=by ac_rfl
  rw[e1,e2]
  refine le_trans h ?_
  rw[mul_assoc]
  exact mul_le_mul_right _ hg
 have h2:=Nat.le_of_mul_le_mul_right h1 hu
 have h3:q * 2 ^ 40 * Y<=(g+1) * (2 ^ 40+1) * Y:=by
  have e1:q * 2 ^ 40 * Y=q * Y * 2 ^ 40:=by ac_rfl
  have e2:(g+1) * (2 ^ 40+1) * Y=(g+1) * Y * (2 ^ 40+1):=by ac_rfl
  rw[e1,e2]
  exact le_trans (mul_le_mul_right _ hq) h2
 have h4:=Nat.le_of_mul_le_mul_right h3 hY
 rw[mul_add,Nat.mul_one] at h4
 omega
theorem acR {a L:Nat} (h:a < pw (L+3)):a / pw L=(dg a (L+2) * 1000000000+dg a (L+1)) * 1000000000+dg a L:=by
 have h1:=ko a L
 have h2:a / pw (L+1)=1000000000 * (a / pw (L+2))+dg a (L+1):=ko a (L+1)
 have h3:dg a (L+2)=a / pw (L+2):=uN h
 omega
theorem acX {b L:Nat} (h:b < pw (L+2)):b / pw L=dg b (L+1) * 1000000000+dg b L:=by
 have h1:=ko b L
 have h3:dg b (L+1)=b / pw (L+1):=uN h
 omega
theorem Ol {a b P X Y:Nat} (hP:0 < P) (hX:a / P=X) (hY:b / P=Y) (hb:1000000000<=Y) (hab:a < b * 1000000000):X<=2 ^ 31 * Y/\X < (a / b+2) * Y/\a / b * Y<=X/\a / b < 1000000000:=by
 have ha1:X * P<=a:=hX ▸ Nat.div_mul_le_self a P
 have ha2:a < (X+1) * P:=by rw[<-hX]; exact Nat.lt_mul_of_div_lt (lt_succ_self _) hP
 have hb1:Y * P<=b:=hY ▸ Nat.div_mul_le_self b P
 have hb2:b < (Y+1) * P:=by rw[<-hY]; exact Nat.lt_mul_of_div_lt (lt_succ_self _) hP
 have hb0:0 < b:=by
  have:0 < Y * P:=mul_pos J hP
  omega
 have hq:a / b < 1000000000:=by rw[div_lt_iff_lt_mul hb0,mul_comm]; exact hab
 have hq1:a / b * b<=a:=Nat.div_mul_le_self a b
 have hq2:a < (a / b+1) * b:=Nat.lt_mul_of_div_lt (lt_succ_self _) hb0
 generalize a / b=q at *
 refine⟨?_,?_,?_,hq⟩
 ·have h1:X * P < (Y+1) * 1000000000 * P:=by
   have e:(Y+1) * 1000000000 * P=(Y+1) * P * 1000000000:=by ac_rfl
   rw[e]
   exact lt_of_le_of_lt ha1 (Nat.lt_trans hab (Nat.mul_lt_mul_of_pos_right hb2 ae))
  have h2:=Nat.lt_of_mul_lt_mul_right h1
  omega
 ·have h1:X * P < (q+1) * (Y+1) * P:=by
   rw[mul_assoc]
   exact lt_of_le_of_lt ha1 (lt_of_lt_of_le hq2 (mul_le_mul_left _ (le_of_lt hb2)))
  have h2:=Nat.lt_of_mul_lt_mul_right h1
  have e1:(q+1) * (Y+1)=(q+1) * Y+(q+1):=by rw[mul_add,Nat.mul_one]
  have e2:(q+2) * Y=(q+1) * Y+Y:=by rw[show q+2=(q+1)+1 from J,add_mul (q+1),one_mul]
  omega
 ·have h1:q * Y * P < (X+1) * P:=by
   rw[mul_assoc]
   exact lt_of_le_of_lt (le_trans (mul_le_mul_left _ hb1) hq1) ha2
  have h2:=Nat.lt_of_mul_lt_mul_right h1
  omega
theorem V0 {c d x V:Nat} (h:Ap c x V) (hcd:c<=d):Ap d x V:=by
 obtain⟨R,h1,h2,h3⟩:=h
 have:=mul_le_mul_right V hcd
 exact⟨R,h1,le_trans h2 (Nat.add_le_add_left this _),le_trans h3 (Nat.add_le_add_left this _)⟩
theorem Dp {n:Nat} (h:n < 1000000000):n < 2 ^ 900:=lt_of_lt_of_le (Nat.lt_trans h (by decide:1000000000 < 2 ^ 30)) (ple (a:=30) (b:=900) J)
theorem Xq {n:Nat} (h:n < 1000000000000000000):n < 2 ^ 80:=lt_of_lt_of_le h ae
theorem DC {n:Nat} (h:n < 1000000000000000000000000000):n < 2 ^ 110:=lt_of_lt_of_le h ae
theorem b95 {n:Nat} (h:n < 1000000000000000000000000000):n < 2 ^ 95:=lt_of_lt_of_le h ae
theorem b31 {n:Nat} (h:n < 1000000000):n < 2 ^ 31:=lt_of_lt_of_le h ae
theorem TI {a b L:Nat} (hb:nl b=L+2) (hab:a < b * 1000000000):∃m2 m2' m1 s1 tp n1 bt q:Nat,∃g:Nat,
  floatBits .mul .f64 (floatOfInt .f64 (dg a (L+2):Nat)) 4741671816366391296=some m2/\floatBits .mul .f64 m2 4741671816366391296=some m2' ∧
  floatBits .mul .f64 (floatOfInt .f64 (dg a (L+1):Nat)) 4741671816366391296=some m1/\floatBits .add .f64 m2' m1=some s1/\floatBits .add .f64 s1 (floatOfInt .f64 (dg a L:Nat))=some tp ∧
  floatBits .mul .f64 (floatOfInt .f64 (dg b (L+1):Nat)) 4741671816366391296=some n1/\floatBits .add .f64 n1 (floatOfInt .f64 (dg b L:Nat))=some bt ∧
  floatBits .quo .f64 tp bt=some q/\floatToIntVal .f64 q .i64=some (g:Int)/\g<=a / b+3/\a / b<=g+3/\g<=2000000000:=by
 have hlt:=ef b
 rw[hb] at hlt
 have ha3:a < pw (L+3):=by
  have:b * 1000000000 < pw (L+2) * 1000000000:=Nat.mul_lt_mul_of_pos_right hlt ae
  rw[mul_comm (pw (L+2)),<-eA] at this
  exact Nat.lt_trans hab this
 have hb1:pw (L+1)<=b:=jQ.1 J
 have d2:=eQ a (L+2)
 have d1:=eQ a (L+1)
 have d0:=eQ a L
 have c1:=eQ b (L+1)
 have c0:=eQ b L
 have hy1:1<=dg b (L+1):=by
  rw[uN hlt]
  exact Nat.div_pos hb1 (eU _)
 have hX:=acR ha3
 have hY:=acX hlt
 have hq:=Ol (eU L) hX hY J hab
 clear hX hY hb1 ha3 hlt hab hb
 revert hq
 generalize dg a (L+2)=x2 at *
 generalize dg a (L+1)=x1 at *
 generalize dg a L=x0 at *
 generalize dg b (L+1)=y1 at *
 generalize dg b L=y0 at *
 obtain⟨m2,e1,p1⟩:=BJ ae (uy (Dp d2)) (Xq J)
 obtain⟨m2',e2,p2⟩:=BJ ae p1 (Xq J)
 obtain⟨m1,e3,p3⟩:=BJ ae (uy (Dp d1)) (Xq J)
 obtain⟨s1,e4,p4⟩:=Kd ae ae p2 p3 (DC J) (DC J)
 obtain⟨tp,e5,p5⟩:=Kd ae ae p4 (uy (Dp d0)) (DC J) (DC J)
 obtain⟨n1,e6,p6⟩:=BJ ae (uy (Dp c1)) (Xq J)
 obtain⟨bt,e7,p7⟩:=Kd ae ae p6 (uy (Dp c0)) (DC J) (DC J)
 have hXe:x2 * 1000000000 * 1000000000+x1 * 1000000000+x0=(x2 * 1000000000+x1) * 1000000000+x0:=by rw[add_mul]
 rw[hXe] at p5
 obtain⟨q,T,e8,p8,t1,t2⟩:=aaX (V0 p5 ae) (V0 p7 ae) (b95 J) (b95 J) J
 rintro⟨k1,k2,k3,k4⟩
 have hT1:T / UU * UU<=T:=Nat.div_mul_le_self T UU
 have hT2:T<=(T / UU+1) * UU:=le_of_lt (Nat.lt_mul_of_div_lt (lt_succ_self _) kW)
 have g1:=acZ kW hT1 t1 k1 k2
 have g2:=ac8 kW J hT2 t2 k3 (b31 k4)
 generalize a / b=qq at *
 refine⟨m2,m2',m1,s1,tp,n1,bt,q,T / UU,e1,e2,e3,e4,e5,e6,e7,e8,?_,J,J,J⟩
 unfold floatToIntVal
 have:=TJ p8
 have hd:FloatKind.f64.decode q=double.read q:=rfl
 rw[hd,this]
 simp only
 rw[if_pos]
 have e1:IntKind.i64.min=-9223372036854775808:=ae
 have e2:IntKind.i64.max=9223372036854775807:=ae
 rw[e1,e2]
 generalize T / UU=gg at *
 omega
attribute [go_sem] Ku List.headD_cons Tryz.underlying332
theorem y9 {a b:Nat}:jZ a b<=0 ↔ a<=b:=by unfold jZ; split<;>(try split)<;>omega
theorem yJ {a b:Nat}:jZ a b < 0 ↔ a < b:=by unfold jZ; split<;>(try split)<;>omega
theorem qT {a b:Nat}:0<=jZ a b ↔ b<=a:=by unfold jZ; split<;>(try split)<;>omega
theorem db {n:Nat} (h:n < 1000000000):nl n<=1:=dA.2 h
theorem yS {a b q m:Nat} (hb:0 < b) (hq:a / b=q):b * m<=a ↔ m<=q:=by
 rw[<-hq,Nat.le_div_iff_mul_le hb,mul_comm]
theorem NV {a b:Nat} (h:a < b * 1000000000):a / b < 1000000000:=by
 rcases eq_zero_or_pos b with rfl|hb
 ·simp at h
 ·rw[div_lt_iff_lt_mul hb,mul_comm]; exact h
theorem Ll (a b:Nat) (hb:0 < b) (ha:nl a<=50000) (hb2:nl b<=50000) (hab:a < b * 1000000000):Fn prog 372 [⟨aq,aB a⟩,⟨aq,aB b⟩] false [⟨.int,((a / b:Nat):Int)⟩]:=by
 have hq9:=NV hab
 generalize hq:a / b=q at *
 refine fe func372 ntmps372 results372 fun hwf=>?_
 refine Nz ?_
 refine aF.intro _ _ _ (fun x:Int × Int=>⟨[(0,.sl .int (aB a)),(1,.sl .int (aB b)),(5,.sc (.int .i64 x.1)),(6,.sc (.int .i64 x.2))],[]⟩) (fun x=>0<=x.1/\x.2<=999999999/\x.1<=q/\q<=x.2) (fun x=>(x.2 - x.1).toNat) (0,999999999) ?_ ⟨by simp,by simp,by simp,by simp only; omega⟩ ?_
 ·exact WK
 ·rintro⟨lo,hi⟩ ⟨h1,h2,h3,h4⟩
  simp only at h1 h2 h3 h4
  refine Nz ?_
  refine ao ?_ ?_<;>intro hA
  ·refine Sz ?_
   refine lF.pos J J ?_
   obtain⟨m,hm⟩:∃m:Nat,(lo+hi+1) / 2=m:=⟨((lo+hi+1) / 2).toNat,J⟩
   rw[hm]
   refine Cz (jG m) ?_
   refine cw (jS b m J (le_trans (db J) J)) ?_
   refine Bz (tg (aB (b * m)) (aB a)) ?_
   refine ao ?_ ?_<;>intro hB
   ·rw[y9,yS hb hq] at hB
    refine Nz ?_
    refine az.mk (m,hi) ?_ ⟨by simp only; omega,by simp only; omega,by simp only; omega,by simp only; omega⟩ (by simp only; omega)
    exact WK
   ·rw[y9,yS hb hq] at hB
    refine Sz ?_
    refine az.mk (lo,m - 1) ?_ ⟨by simp only; omega,by simp only; omega,by simp only; omega,by simp only; omega⟩ (by simp only; omega)
    exact WK
  ·refine Nz ?_
   omega
theorem VP (a b:Nat) (hb:2<=nl b) (ha:nl a<=50000) (hb2:nl b<=50000) (hab:a < b * 1000000000):Fn prog 293 [⟨aq,aB a⟩,⟨aq,aB b⟩] false [⟨.int,((a / b:Nat):Int)⟩]:=by
 obtain⟨L,hL⟩:∃L,nl b=L+2:=⟨nl b - 2,J⟩
 have hb0:0 < b:=pos_of_ne_zero fun h=>by rw[h,jK] at hb; omega
 have hguess:=TI hL hab
 rw[show L+2=nl b from J,show L+1=((nl b:Int) - 1).toNat from J,show L=((nl b:Int) - 2).toNat from J] at hguess
 obtain⟨m2,m2',m1,s1,tp,n1,bt,q',g,e1,e2,e3,e4,e5,e6,e7,e8,e9,g1,g2,g3⟩:=hguess
 clear hL
 have hq9:=NV hab
 generalize hq:a / b=q at *
 have hla:nl a<=nl b+1:=by
  rw[dA,eA]
  have:=ef b
  omega
 have hA:(nl a:Int)<=nl b+1:=J
 refine fe func293 ntmps293 results293 fun hwf=>?_
 refine Tz hA ?_
 refine cw (oL (aB a) (nl b) J) ?_
 refine Nz ?_
 refine nC.mk _ e1 ?_
 refine Nz ?_
 refine nC.mk _ e2 ?_
 refine Bz (oL (aB a) ((nl b:Int) - 1) J) ?_
 refine nC.mk _ e3 ?_
 refine Nz ?_
 refine nC.mk _ e4 ?_
 refine Bz (oL (aB a) ((nl b:Int) - 2) J) ?_
 refine nC.mk _ e5 ?_
 refine Sz ?_
 refine nC.mk _ e6 ?_
 refine Sz ?_
 refine nC.mk _ e7 ?_
 refine Sz ?_
 refine nC.mk _ e8 ?_
 refine Nz ?_
 refine Py.mk _ e9 (by constructor<;>omega) ?_
 refine Sz ?_
 refine aF.intro _ _ _ (fun x:Int × Int=>⟨[(0,.sl .int (aB a)),(1,.sl .int (aB b)),(5,.sc (.int .i64 x.1)),(6,.sc (.int .i64 x.2))],[]⟩) (fun x=>0<=x.1/\x.2<=999999999/\x.1<=q/\q<=x.2) (fun x=>(x.2 - x.1).toNat) (max 0 ((g:Int) - 2000),min 999999999 ((g:Int)+2000)) ?_ ⟨by simp only; omega,by simp only; omega,by simp only; omega,by simp only; omega⟩ ?_
 ·exact WK
 ·rintro⟨lo,hi⟩ ⟨h1,h2,h3,h4⟩
  simp only at h1 h2 h3 h4
  refine Nz ?_
  refine ao ?_ ?_<;>intro hA
  ·refine Sz ?_
   refine lF.pos J J ?_
   obtain⟨m,hm⟩:∃m:Nat,(lo+hi+1) / 2=m:=⟨((lo+hi+1) / 2).toNat,J⟩
   rw[hm]
   refine Cz (iP m) ?_
   refine cw (mM b m J (le_trans (db J) J)) ?_
   refine Bz (nm (aB (b * m)) (aB a)) ?_
   refine ao ?_ ?_<;>intro hB
   ·rw[y9,yS hb0 hq] at hB
    refine Nz ?_
    refine az.mk (m,hi) ?_ ⟨by simp only; omega,by simp only; omega,by simp only; omega,by simp only; omega⟩ (by simp only; omega)
    exact WK
   ·rw[y9,yS hb0 hq] at hB
    refine Sz ?_
    refine az.mk (lo,m - 1) ?_ ⟨by simp only; omega,by simp only; omega,by simp only; omega,by simp only; omega⟩ (by simp only; omega)
    exact WK
  ·refine Nz ?_
   omega
theorem Ai {l:List Int} {i:Nat} {d:Int} (h:i < l.length):ni (l.set i d) i=d:=by
 rw[cd (by simpa using h)]; simp
theorem BG (d r:Nat) (h:d < 1000000000):pf ((d:Int) :: aB r)=aB (r * 1000000000+d):=by
 show pf ([(d:Int)]++aB r)=_
 rw[kS (T5 (Uo J J) (E8 r)),XW,val_one,jW,toNat_natCast]
 congr 1
 show d+pw 1 * r=_
 rw[Zu]; omega
theorem Gx (d r:Nat) (h:d < 1000000000):Fn prog 234 [⟨aq,(d:Int) :: aB r⟩] false [⟨aq,aB (r * 1000000000+d)⟩]:=by
 have:=nL ((d:Int) :: aB r)
 rw[BG d r h] at this
 exact this
theorem GA (d r:Nat) (h:d < 1000000000):Fn prog 354 [⟨aq,(d:Int) :: aB r⟩] false [⟨aq,aB (r * 1000000000+d)⟩]:=by
 have:=jo ((d:Int) :: aB r)
 rw[BG d r h] at this
 exact this
theorem Kt {r b d:Nat} (hr:r < b) (hd:d < 1000000000):r * 1000000000+d < b * 1000000000/\nl (r * 1000000000+d)<=nl b+1:=by
 refine⟨J,?_⟩
 rw[dA,eA]
 have:=ef b
 omega
theorem uD {b:Nat} (h:nl b=1):dg b 0=b:=by
 rw[El]; exact mod_eq_of_lt (dA.1 (by omega:nl b<=1))
theorem kN (a b:Nat) (hb0:0 < b) (ha:nl a<=40000) (hb:nl b<=40000):Fn prog 231 [⟨aq,aB a⟩,⟨aq,aB b⟩] false [⟨aq,aB (a / b)⟩,⟨aq,aB (a % b)⟩]:=by
 have hbn:nl b ≠ 0:=fun h=>by rw[dz.1 h] at hb0; omega
 refine fe func231 ntmps231 results231 fun hwf=>?_
 refine Bz (nm (aB a) (aB b)) ?_
 refine ao ?_ ?_<;>intro hA
 ·rw[yJ] at hA
  refine Nz ?_
  rw[div_eq_of_lt hA,mod_eq_of_lt hA,dx]
  exact⟨rfl,rfl⟩
 ·rw[yJ] at hA
  refine Nz ?_
  refine ao ?_ ?_<;>intro hB
  ·have h1:nl b=1:=J
   have hb9:b < 1000000000:=dA.1 (by omega:nl b<=1)
   refine Uz hB ?_
   rw[uD h1]
   refine Cz (uI a b hb0 hb9 J) ?_
   refine cw (iP ((a % b:Nat):Int)) ?_
   try simp (maxSteps:=9^9) only[go_sem]
  ·have hb2:2<=nl b:=J
   refine Tz hB ?_
   refine aF.intro _ _ _ (fun x:Nat × List Int=>⟨[(0,.sl .int (aB a)),(1,.sl .int (aB b)),(8,.row 0 0),(9,.sl .int (aB (a / pw x.1 % b))),(10,.sc (.int .i64 ((x.1:Int) - 1)))],[(0,.row 3 .int 0 true x.2)]⟩) (fun x=>x.1<=nl a/\bN x.2/\x.2.length=nl a/\val x.2=pw x.1 * (a / pw x.1 / b)) (fun x=>x.1) (nl a,replicate (nl a) 0) ?_ ⟨by simp,oV _,by simp,by simp[qX,div_eq_of_lt (ef a)]⟩ ?_
   ·refine Wk.mk [] ?_
    refine Nz ?_
    try (and_intros<;>first|rfl|omega|exact⟨_,rfl⟩)
    all_goals (simp[div_eq_of_lt (ef a),dx])
   ·rintro⟨t,out⟩ ⟨h1,h2,h3,h4⟩
    simp only at h1 h2 h3 h4
    refine Nz ?_
    refine ao (fun hC=>?_) (fun hC=>?_)
    ·obtain⟨i,rfl⟩:∃i,t=i+1:=⟨t - 1,J⟩
     have hd1:=eQ a i
     have hml:=mod_lt (a / pw (i+1)) hb0
     obtain⟨s1,s2,s3⟩:=qA (a:=a) (i:=i) hb0
     obtain⟨s4,s5⟩:=ta h2 (show i < out.length from J) s3 h4
     have ei:((i+1:Nat):Int) - 1=i:=J
     obtain⟨hr9,hrl⟩:=Kt hml hd1
     have hml2:nl (a / pw (i+1) % b)<=nl b:=iM (le_of_lt hml)
     refine Tz ei ?_
     refine Bz (Gx (dg a i) (a / pw (i+1) % b) hd1) ?_
     generalize hR:a / pw (i+1) % b * 1000000000+dg a i=R at *
     refine Bz (nm (aB R) (aB b)) ?_
     refine ao (fun hD=>?_) (fun hD=>?_)
     ·rw[qT] at hD
      refine Cz (VP R b hb2 J J hr9) ?_
      rw[Ai J]
      refine Cz (iP ((R / b:Nat):Int)) ?_
      refine cw (mM b (R / b) J (le_trans (db s3) J)) ?_
      refine Cz (wO R (b * (R / b)) (Nat.mul_div_le R b) J) ?_
      refine az.mk (i,out.set i ((R / b:Nat):Int)) ?_ ⟨by simp only; omega,s4,by simp[h3],by simp only; rw[s5,s2]⟩ (by simp only; omega)
      refine Wk.mk [] ?_
      refine Nz ?_
      try (and_intros<;>first|rfl|omega|exact⟨_,rfl⟩)
      all_goals (have e:R - b * (R / b)=R % b:=(by have:=mod_add_div R b; omega); rw[e,s1])
     ·rw[qT] at hD
      refine Sz ?_
      have hq0:R / b=0:=div_eq_of_lt J
      rw[hq0] at s2 s5
      refine az.mk (i,out) ?_ ⟨by simp only; omega,h2,by simp[h3],by simp only; rw[h4,s2,eA]; simp only[add_zero]; ac_rfl⟩ (by simp only; omega)
      refine Wk.mk [] ?_
      refine Nz ?_
      try (and_intros<;>first|rfl|omega|exact⟨_,rfl⟩)
      all_goals (rw[<-s1,mod_eq_of_lt J])
    ·have ht:t=0:=J
     subst ht
     refine Tz hC ?_
     refine cw (nL out) ?_
     refine Nz ?_
     rw[kS h2,h4,gz,div_one,one_mul]
     exact⟨rfl,rfl⟩
theorem jR (a b:Nat) (hb0:0 < b) (ha:nl a<=40000) (hb:nl b<=40000):Fn prog 350 [⟨aq,aB a⟩,⟨aq,aB b⟩] false [⟨aq,aB (a / b)⟩,⟨aq,aB (a % b)⟩]:=by
 have hbn:nl b ≠ 0:=fun h=>by rw[dz.1 h] at hb0; omega
 refine fe func350 ntmps350 results350 fun hwf=>?_
 refine Nz ?_
 refine ao ?_ ?_<;>intro hB
 ·have h1:nl b=1:=J
  have hb9:b < 1000000000:=dA.1 (by omega:nl b<=1)
  refine Uz hB ?_
  rw[uD h1]
  refine Cz (Ln a b hb0 hb9 J) ?_
  refine cw (jG ((a % b:Nat):Int)) ?_
  try simp (maxSteps:=9^9) only[go_sem]
 ·have hb2:2<=nl b:=J
  refine Tz hB ?_
  refine aF.intro _ _ _ (fun x:Nat × List Int=>⟨[(0,.sl .int (aB a)),(1,.sl .int (aB b)),(8,.row 0 0),(9,.sl .int (aB (a / pw x.1 % b))),(10,.sc (.int .i64 ((x.1:Int) - 1)))],[(0,.row 3 .int 0 true x.2)]⟩) (fun x=>x.1<=nl a/\bN x.2/\x.2.length=nl a/\val x.2=pw x.1 * (a / pw x.1 / b)) (fun x=>x.1) (nl a,replicate (nl a) 0) ?_ ⟨by simp,oV _,by simp,by simp[qX,div_eq_of_lt (ef a)]⟩ ?_
  ·refine Wk.mk [] ?_
   refine Nz ?_
   try (and_intros<;>first|rfl|omega|exact⟨_,rfl⟩)
   all_goals (simp[div_eq_of_lt (ef a),dx])
  ·rintro⟨t,out⟩ ⟨h1,h2,h3,h4⟩
   simp only at h1 h2 h3 h4
   refine Nz ?_
   refine ao (fun hC=>?_) (fun hC=>?_)
   ·obtain⟨i,rfl⟩:∃i,t=i+1:=⟨t - 1,J⟩
    have hd1:=eQ a i
    have hml:=mod_lt (a / pw (i+1)) hb0
    obtain⟨s1,s2,s3⟩:=qA (a:=a) (i:=i) hb0
    obtain⟨s4,s5⟩:=ta h2 (show i < out.length from J) s3 h4
    have ei:((i+1:Nat):Int) - 1=i:=J
    obtain⟨hr9,hrl⟩:=Kt hml hd1
    have hml2:nl (a / pw (i+1) % b)<=nl b:=iM (le_of_lt hml)
    refine Tz ei ?_
    refine Bz (GA (dg a i) (a / pw (i+1) % b) hd1) ?_
    generalize hR:a / pw (i+1) % b * 1000000000+dg a i=R at *
    refine Bz (tg (aB R) (aB b)) ?_
    refine ao (fun hD=>?_) (fun hD=>?_)
    ·rw[yJ] at hD
     refine Sz ?_
     have hq0:R / b=0:=div_eq_of_lt J
     rw[hq0] at s2 s5
     refine az.mk (i,out) ?_ ⟨by simp only; omega,h2,by simp[h3],by simp only; rw[h4,s2,eA]; simp only[add_zero]; ac_rfl⟩ (by simp only; omega)
     refine Wk.mk [] ?_
     refine Nz ?_
     try (and_intros<;>first|rfl|omega|exact⟨_,rfl⟩)
     all_goals (rw[<-s1,mod_eq_of_lt J])
    ·rw[yJ] at hD
     refine Cz (Ll R b hb0 J J hr9) ?_
     refine cw (jG ((R / b:Nat):Int)) ?_
     refine Cz (jS b (R / b) J (le_trans (db s3) J)) ?_
     refine cw (wQ R (b * (R / b)) (Nat.mul_div_le R b) J) ?_
     refine Sz ?_
     refine az.mk (i,out.set i ((R / b:Nat):Int)) ?_ ⟨by simp only; omega,s4,by simp[h3],by simp only; rw[s5,s2]⟩ (by simp only; omega)
     refine Wk.mk [] ?_
     refine Nz ?_
     try (and_intros<;>first|rfl|omega|exact⟨_,rfl⟩)
     all_goals (have e:R - b * (R / b)=R % b:=(by have:=mod_add_div R b; omega); rw[e,s1])
   ·have ht:t=0:=J
    subst ht
    refine Tz hC ?_
    refine cw (jo out) ?_
    refine Nz ?_
    rw[kS h2,h4,gz,div_one,one_mul]
    exact⟨rfl,rfl⟩
theorem T6 {n:Nat} (h:nl n<=60):rD (aB n)=true:=jr (pJ.2 h)
theorem JD {n:Nat} (h:0 < n) (h2:n < 1000000000):aB n=[(n:Int)]:=by
 rw[gu h,mod_eq_of_lt h2,div_eq_of_lt h2,dx]
theorem zD:aB 9223372036854775807=[854775807,223372036,9]:=by
 rw[gu ae,gu ae,gu ae,dx]; rfl
theorem OA {a:Nat} (h:a<=9223372036854775807) (t:Nat):a / pw t<=9223372036854775807:=le_trans (div_le_self a _) h
theorem tl (a:Nat) (ha:nl a<=60):Fn prog 348 [⟨aq,aB a⟩] false [⟨.int,if a<=9223372036854775807 then (a:Int) else 0⟩,⟨.bool,decide (a<=9223372036854775807)⟩]:=by
 refine fe func348 ntmps348 results348 fun hwf=>?_
 refine Bz (gZ (aB a)) ?_
 have hok:=T6 ha
 try simp (maxSteps:=9^9) only[go_sem,hok,Bool.not_true]
 have hcmp:=tg (aB a) [854775807,223372036,9]
 rw[<-zD,Ku,zD] at hcmp
 refine Bz hcmp ?_
 by_cases hA:a<=9223372036854775807
 ·have hB:¬ 0 < jZ a 9223372036854775807:=by unfold jZ; split<;>(try split)<;>omega
  refine fy hB hA ?_
  refine aF.intro _ _ _ (fun t:Nat=>⟨[(0,.sl .int (aB a)),(4,.sc (.int .i64 (a / pw t:Nat))),(5,.sc (.int .i64 ((t:Int) - 1)))],[]⟩) (fun t=>t<=nl a) (fun t=>t) (nl a) ?_ (le_refl _) ?_
  ·refine Wk.mk [] ?_
   refine Nz ?_
   try (and_intros<;>first|rfl|omega|exact⟨_,rfl⟩)
   all_goals (simp[div_eq_of_lt (ef a)])
  ·rintro t h1
   refine Nz ?_
   refine ao (fun hC=>?_) (fun hC=>?_)
   ·obtain⟨i,rfl⟩:∃i,t=i+1:=⟨t - 1,J⟩
    have hd1:=eQ a i
    have hi:=ko a i
    have hle:=OA hA i
    have ei:((i+1:Nat):Int) - 1=i:=J
    generalize a / pw (i+1)=q at *
    refine Tz ei ?_
    refine az.mk i ?_ J J
    exact WK
   ·have ht:t=0:=J
    subst ht
    refine tW hC hA ?_
    rw[gz,div_one]
 ·have hB:0 < jZ a 9223372036854775807:=by unfold jZ; split<;>(try split)<;>omega
  try simp (maxSteps:=9^9) only[go_sem,hB,hA]
theorem oW {x y a b:Nat} (h:gcd x y=gcd a b):gcd y (x % y)=gcd a b:=by
 rw[<-h,Nat.gcd_comm x y,Nat.gcd_rec y x,Nat.gcd_comm]
theorem Ls (a b:Nat) (ha:a<=9223372036854775807) (hb:b<=9223372036854775807):Fn prog 349 [⟨.int,(a:Int)⟩,⟨.int,(b:Int)⟩] false [⟨aq,aB (gcd a b)⟩]:=by
 refine fe func349 ntmps349 results349 fun hwf=>?_
 refine Nz ?_
 refine aF.intro _ _ _ (fun x:Nat × Nat=>⟨[(0,.sc (.int .i64 x.1)),(1,.sc (.int .i64 x.2))],[]⟩) (fun x=>gcd x.1 x.2=gcd a b/\x.1<=9223372036854775807/\x.2<=9223372036854775807) (fun x=>x.2) (a,b) ?_ ⟨rfl,ha,hb⟩ ?_
 ·exact WK
 ·rintro⟨x,y⟩ ⟨h1,h2,h3⟩
  simp only at h1 h2 h3
  refine Nz ?_
  refine ao ?_ ?_<;>intro hA
  ·have hy:0 < y:=J
   have hml:=mod_lt x hy
   refine Nz ?_
   refine fR.pos J J ?_
   refine Nz ?_
   refine az.mk (y,x % y) ?_ ⟨oW h1,h3,by simp only; omega⟩ (by simp only; omega)
   exact WK
  ·have hy:y=0:=J
   subst hy
   refine Bz (jG (x:Int)) ?_
   rw[Nat.gcd_zero_right] at h1
   rw[h1]
theorem kK (a b:Nat) (ha:nl a<=60) (hb:nl b<=60):Fn prog 307 [⟨aq,aB a⟩,⟨aq,aB b⟩] false [⟨aq,aB (gcd a b)⟩]:=by
 refine fe func307 ntmps307 results307 fun hwf=>?_
 refine Sz ?_
 refine Sz ?_
 refine aF.intro _ _ _ (fun x:Nat × Nat=>⟨[(5,.sl .int (aB x.1)),(6,.sl .int (aB x.2))],[]⟩) (fun x=>gcd x.1 x.2=gcd a b/\nl x.1<=60/\nl x.2<=60) (fun x=>x.2) (a,b) ?_ ⟨rfl,ha,hb⟩ ?_
 ·exact WK
 ·rintro⟨x,y⟩ ⟨h1,h2,h3⟩
  simp only at h1 h2 h3
  by_cases hy:y=0
  ·subst hy
   have hA:¬ (0:Int) < (nl 0:Nat):=by rw[jK]; omega
   rw[Nat.gcd_zero_right] at h1
   refine Uz hA ?_
   rw[h1]
  ·have hA:(0:Int) < (nl y:Nat):=by have:=(uS y hy).1; omega
   by_cases hs:(nl x:Int) < 3/\(nl y:Int) < 3
   ·obtain⟨hB,hC⟩:=hs
    have hx9:x<=9223372036854775807:=by have:=(dA (k:=2)).1 (show nl x<=2 from J); have e:pw 2=1000000000000000000:=rfl; omega
    have hy9:y<=9223372036854775807:=by have:=(dA (k:=2)).1 (show nl y<=2 from J); have e:pw 2=1000000000000000000:=rfl; omega
    refine qk hA hB hC ?_
    refine cw (tl x h2) ?_
    refine Bz (tl y h3) ?_
    refine fy hx9 hy9 ?_
    refine cw (Ls x y hx9 hy9) ?_
    refine Nz ?_
    rw[h1]
   ·have hp:¬ (nl x:Int) < 3\/((nl x:Int) < 3/\¬ (nl y:Int) < 3):=J
    have hml:=mod_lt x (pos_of_ne_zero hy)
    have hm2:=iM (le_of_lt hml)
    rcases hp with hB|⟨hB,hC⟩
    ·refine fy hA hB ?_
     refine cw (jR x y (pos_of_ne_zero hy) J J) ?_
     refine Nz ?_
     refine az.mk (y,x % y) ?_ ⟨oW h1,h3,by simp only; omega⟩ (by simp only; omega)
     exact WK
    ·refine qk hA hB hC ?_
     refine cw (jR x y (pos_of_ne_zero hy) J J) ?_
     refine Nz ?_
     refine az.mk (y,x % y) ?_ ⟨oW h1,h3,by simp only; omega⟩ (by simp only; omega)
     exact WK
theorem kL (a b:Nat) (ha:nl a<=30000) (hb:nl b<=30000):Fn prog 166 [⟨aq,aB a⟩,⟨aq,aB b⟩] false [⟨aq,aB (gcd a b)⟩]:=by
 refine fe func166 ntmps166 results166 fun hwf=>?_
 refine Nz ?_
 refine aF.intro _ _ _ (fun x:Nat × Nat=>⟨[(0,.sl .int (aB x.1)),(1,.sl .int (aB x.2))],[]⟩) (fun x=>gcd x.1 x.2=gcd a b/\nl x.1<=30000/\nl x.2<=30000) (fun x=>x.2) (a,b) ?_ ⟨rfl,ha,hb⟩ ?_
 ·exact WK
 ·rintro⟨x,y⟩ ⟨h1,h2,h3⟩
  simp only at h1 h2 h3
  by_cases hA:(1:Int) < (nl y:Nat)
  ·have hy:0 < y:=pos_of_ne_zero fun h=>by rw[h,jK] at hA; omega
   have hml:=mod_lt x hy
   have hm2:=iM (le_of_lt hml)
   refine Tz hA ?_
   refine cw (kN x y hy J J) ?_
   refine Nz ?_
   refine az.mk (y,x % y) ?_ ⟨oW h1,h3,by simp only; omega⟩ (by simp only; omega)
   exact WK
  ·by_cases hy:y=0
   ·subst hy
    have hB:(nl 0:Int)=0:=by rw[jK]; rfl
    rw[Nat.gcd_zero_right] at h1
    refine tW hA hB ?_
    rw[h1]
   ·have hB:¬ (nl y:Int)=0:=by have:=(uS y hy).1; omega
    have h4:nl y=1:=J
    have hy9:y < 1000000000:=dA.1 (by omega:nl y<=1)
    have hml:=mod_lt x (pos_of_ne_zero hy)
    refine fy hA hB ?_
    have hsm:=uI x y (pos_of_ne_zero hy) hy9 J
    rw[<-uD h4] at hsm
    refine Cz hsm ?_
    rw[uD h4]
    refine aF.intro _ _ _ (fun z:Nat × Nat=>⟨[(8,.sc (.int .i64 z.2)),(9,.sc (.int .i64 z.1))],[]⟩) (fun z=>gcd z.1 z.2=gcd a b/\0 < z.1/\z.1 < 1000000000/\z.2 < 1000000000) (fun z=>z.2) (y,x % y) ?_ ⟨oW h1,pos_of_ne_zero hy,hy9,by simp only; omega⟩ ?_
    ·exact WK
    ·rintro⟨u,v⟩ ⟨g1,g2,g3,g4⟩
     simp only at g1 g2 g3 g4
     refine Nz ?_
     refine ao (fun hC=>?_) (fun hC=>?_)
     ·have hv:0 < v:=J
      have hml2:=mod_lt u hv
      refine Nz ?_
      refine fR.pos J J ?_
      refine Sz ?_
      refine az.mk (v,u % v) ?_ ⟨oW g1,hv,g4,by simp only; omega⟩ (by simp only; omega)
      exact WK
     ·have hv:v=0:=J
      subst hv
      rw[Nat.gcd_zero_right] at g1
      refine Nz ?_
      rw[<-g1,JD g2 g3]
abbrev DB:Type:=Bool × List Int
abbrev DR:Type:=DB × List Int
def bE (z:Int):DB:=(decide (z < 0),aB z.natAbs)
def bZ:DB:=(false,[])
theorem QD:bE 0=bZ:=by simp[bE,bZ,dx]
theorem UN {x y:Int} (h:bE x=bE y):x=y:=by
 simp only[bE,Prod.mk.injEq,decide_eq_decide] at h
 have:=Bj h.2
 omega
theorem AB (n:Nat):bE n=(false,aB n):=by
 rw[bE,Int.natAbs_natCast,ak J]
def eV (s:Bool) (n:Nat):Int:=if s then -(n:Int) else n
theorem AR (s:Bool) (n:Nat):bE (eV s n)=(s && decide (0 < n),aB n):=by
 cases s with
 | false=>simp only[eV,false_eq_true,if_false,AB,Bool.false_and]
 | true =>
  simp only[eV,if_true,bE,Int.natAbs_neg,Int.natAbs_natCast,Bool.true_and]
  congr 1
  rw[decide_eq_decide]; omega
theorem rz (z:Int):eV (decide (z < 0)) z.natAbs=z:=by
 unfold eV; split<;>simp_all<;>omega
def DH (x:DB):Prop:=ym x.2/\¬ (x.1=true/\x.2.length=0)
def okB (x:DB):Bool:=Kr (DH x)
theorem xz {z:Int}:DH (bE z) ↔ nl z.natAbs<=60:=by
 unfold DH bE
 simp only[pJ,gO,dz,decide_eq_true_eq]
 constructor
 ·exact fun h=>h.1
 ·exact fun h=>⟨h,J⟩
theorem AN {x:DB}:DH x ↔ ∃z:Int,x=bE z/\nl z.natAbs<=60:=by
 constructor
 ·intro h
  obtain⟨n,e,hn⟩:=vZ.1 h.1
  refine⟨eV x.1 n,?_,?_⟩
  ·rw[AR]
   obtain⟨s,l⟩:=x
   simp only at e h ⊢
   subst e
   have h2:=h.2
   simp only[gO,dz] at h2
   cases s with
   | false=>rfl
   | true =>
    have:0 < n:=by simp at h2; omega
    simp[this]
  ·have:(eV x.1 n).natAbs=n:=by unfold eV; split<;>omega
   rw[this]; exact hn
 ·rintro⟨z,rfl,h⟩; exact xz.2 h
theorem uY {z:Int} (h:nl z.natAbs<=60):okB (bE z)=true:=jr (xz.2 h)
def lN (a b:Int):Int:=if a < b then -1 else if b < a then 1 else 0
def small (q:Rat):Prop:=nl q.num.natAbs<=24/\nl q.den<=24
def fo (q:Rat):DR:=(bE q.num,aB q.den)
def rZ:DR:=(bZ,[])
def oD:Option Rat->DR
 | none=>rZ
 | some q=>fo q
theorem IU (q:Rat):0 < q.den:=pos_of_ne_zero q.den_nz
theorem Ep (q:Rat):fo q ≠ rZ:=fun h=>by
 have h2:aB q.den=[]:=congrArg snd h
 exact q.den_nz (AW.1 h2)
theorem JI {p q:Rat} (h:fo p=fo q):p=q:=by
 simp only[fo,Prod.mk.injEq] at h
 exact Rat.ext (UN h.1) (Bj h.2)
theorem ZK {x y:Option Rat} (h:oD x=oD y):x=y:=by
 cases x<;>cases y
 ·rfl
 ·exact absurd h.symm (Ep _)
 ·exact absurd h (Ep _)
 ·rw[JI h]
def fZ (q:Rat):Option Rat:=@ite _ (small q) (Classical.propDecidable _) (some q) none
theorem dO {q:Rat} (h:small q):fZ q=some q:=if_pos h
theorem Sr {q:Rat} (h:¬ small q):fZ q=none:=if_neg h
def aY (x:Option Rat):Prop:=∀q,x=some q->small q
theorem eu:aY none:=fun _ h=>by cases h
theorem rh (q:Rat):aY (fZ q):=fun p h=>by
 by_cases hs:small q
 ·rw[dO hs] at h; injection h with h; exact h ▸ hs
 ·rw[Sr hs] at h; cases h
def aw (r:DR):Option Rat:=@dite _ (∃q,small q/\r=fo q) (Classical.propDecidable _) (fun h=>some (Classical.choose h)) (fun _=>none)
theorem dT {q:Rat} (h:small q):aw (fo q)=some q:=by
 have he:∃p,small p/\fo q=fo p:=⟨q,h,rfl⟩
 unfold aw
 rw[dif_pos he]
 exact congrArg some (JI (Classical.choose_spec he).2.symm)
theorem gr {x:Option Rat} (h:aY x):aw (oD x)=x:=by
 cases x with
 | none =>
  unfold aw
  rw[dif_neg]
  rintro⟨q,_,hq⟩
  exact Ep q hq.symm
 | some q=>exact dT (h q rfl)
theorem vM {r:DR} {q:Rat} (h:aw r=some q):small q/\r=fo q:=by
 unfold aw at h
 split at h
 ·rename_i he
  injection h with h
  rw[<-h]; exact Classical.choose_spec he
 ·cases h
theorem aI (r:DR):aY (aw r):=fun q h=>(vM h).1
def br (r:DR):Bool:=(aw r).isSome
theorem AX {q:Rat} (h:small q):br (fo q)=true:=by rw[br,dT h]; rfl
theorem qD {r:DR} (h:br r=true):∃q,small q/\r=fo q/\aw r=some q:=by
 unfold br at h
 cases hr:aw r with
 | none=>rw[hr] at h; cases h
 | some q=>exact⟨q,(vM hr).1,(vM hr).2,rfl⟩
theorem zg {r:DR} (h:br r=false):aw r=none:=by
 unfold br at h
 cases hr:aw r with
 | none=>rfl
 | some q=>rw[hr] at h; cases h
theorem X9 {r:DR}:br r=true ↔ DH r.1/\ym r.2/\r.2 ≠ []/\r.1.2.length<=24/\r.2.length<=24/\gcd (val r.1.2) (val r.2)=1:=by
 constructor
 ·intro h
  obtain⟨q,⟨h1,h2⟩,rfl,_⟩:=qD h
  simp only[fo,bE,gO,jW]
  refine⟨xz.2 J,pJ.2 J,fun h=>q.den_nz (AW.1 h),h1,h2,q.reduced⟩
 ·rintro⟨h1,h2,h3,h4,h5,h6⟩
  obtain⟨z,hz,hzl⟩:=AN.1 h1
  obtain⟨n,hn,hnl⟩:=vZ.1 h2
  obtain⟨x,l⟩:=r
  simp only at hz hn h3 h4 h5 h6
  subst hz hn
  simp only[bE,gO,jW] at h4 h5 h6
  have hn0:n ≠ 0:=fun h=>h3 (AW.2 h)
  exact AX (q:=⟨z,n,hn0,h6⟩) ⟨h4,h5⟩
def bX:Option Rat->Option Rat->Option Rat
 | some p,some q=>fZ (p+q)
 | _,_=>none
def eT:Option Rat->Option Rat->Option Rat
 | some p,some q=>fZ (p * q)
 | _,_=>none
def iT:Option Rat->Option Rat->Option Rat
 | some p,some q=>@ite _ (q=0) (Classical.propDecidable _) none (fZ (p / q))
 | _,_=>none
def wS:Option Rat->Option Rat
 | some p=>some (-p)
 | none=>none
def bo (x y:Option Rat):Option Rat:=bX x (wS y)
def eI (p q:Rat):Int:=if p < q then -1 else if q < p then 1 else 0
def bG:Option Rat->Option Rat->Int
 | some p,some q=>eI p q
 | _,_=>0
def pV:Option Rat->Int
 | some p=>eI p 0
 | none=>0
theorem fS (x y:Option Rat):aY (bX x y):=by
 unfold bX; split
 ·exact rh _
 ·exact eu
theorem iH (x y:Option Rat):aY (eT x y):=by
 unfold eT; split
 ·exact rh _
 ·exact eu
theorem SQ {q:Rat} (h:small q):small (-q):=by
 unfold small at *
 rw[Rat.neg_num,Rat.neg_den,Int.natAbs_neg]; exact h
theorem NF {x:Option Rat} (h:aY x):aY (wS x):=by
 cases x with
 | none=>exact eu
 | some q=>intro p hp; injection hp with hp; subst hp; exact SQ (h q rfl)
theorem dJ (x y:Option Rat):aY (bo x y):=fS _ _
theorem T3 {z:Int} {n:Nat} (hn:n ≠ 0):(_root_.mkRat z n).num=z / (gcd z.natAbs n:Nat)/\(_root_.mkRat z n).den=n / gcd z.natAbs n:=by
 rw[Rat.num_mkRat,Rat.den_mkRat,if_neg hn,if_neg hn,Nat.gcd_comm]; exact⟨rfl,rfl⟩
theorem Jn (p q:Rat):p+q=_root_.mkRat (p.num * q.den+q.num * p.den) (p.den * q.den):=by
 have h:=Rat.mkRat_add_mkRat p.num q.num p.den_nz q.den_nz
 rw[mkRat_self,mkRat_self] at h; exact h
theorem aaQ (p q:Rat):p * q=_root_.mkRat (p.num * q.num) (p.den * q.den):=by
 have h:=Rat.mkRat_mul_mkRat p.num q.num p.den q.den
 rw[mkRat_self,mkRat_self] at h; exact h
theorem Na (p q:Rat):eI p q=lN (p.num * q.den) (q.num * p.den):=by
 unfold eI lN
 simp only[Rat.lt_iff]
theorem C2 {z:Int} {n:Nat} (hn:n ≠ 0):(_root_.mkRat z n).num.natAbs=z.natAbs / gcd z.natAbs n/\(_root_.mkRat z n).den=n / gcd z.natAbs n/\decide ((_root_.mkRat z n).num < 0)=decide (z < 0):=by
 obtain⟨h1,h2⟩:=T3 (z:=z) hn
 have hg:0 < gcd z.natAbs n:=Nat.gcd_pos_of_pos_right _ (pos_of_ne_zero hn)
 have hd:gcd z.natAbs n ∣ z.natAbs:=Nat.gcd_dvd_left ..
 rw[h1,h2]
 generalize gcd z.natAbs n=g at *
 obtain⟨k,hk⟩:=hd
 have hk2:z.natAbs / g=k:=by rw[hk,Nat.mul_div_cancel_left _ hg]
 have hz:z=eV (decide (z < 0)) z.natAbs:=(rz z).symm
 have hgz:z / (g:Int)=eV (decide (z < 0)) k:=by
  have hg':(g:Int) ≠ 0:=J
  have e:z=(g:Int) * eV (decide (z < 0)) k:=by
   rw[hk] at hz
   by_cases h:z < 0
   ·simp only[eV,h,decide_true,if_true,natCast_mul] at hz ⊢
    rw[Int.mul_neg]; exact hz
   ·simp only[eV,h,decide_false,false_eq_true,if_false,natCast_mul] at hz ⊢
    exact hz
  conv=>lhs; rw[e]
  exact Int.mul_ediv_cancel_left _ hg'
 rw[hgz,hk2]
 refine⟨by unfold eV; split<;>omega,rfl,?_⟩
 rw[decide_eq_decide]
 unfold eV
 by_cases h:z < 0
 ·have hkp:0 < k:=by
   rcases eq_zero_or_pos k with h0|h0
   ·rw[h0,Nat.mul_zero] at hk; omega
   ·exact h0
  simp[h]; omega
 ·simp[h]
attribute [go_sem] bE
theorem OB {n:Nat}:(0:Int) < (nl n:Nat) ↔ 0 < n:=by
 by_cases h:n=0
 ·subst h; rw[jK]; simp
 ·have:=(uS n h).1; omega
theorem Zm (x y:Int):eV (!(decide (x < 0) == decide (y < 0))) (x.natAbs * y.natAbs)=x * y:=by
 unfold eV
 rw[natCast_mul]
 by_cases hx:x < 0<;>by_cases hy:y < 0<;>simp only[hx,hy,decide_true,decide_false,beq_self_eq_true,Bool.not_true,false_eq_true,if_false,Bool.not_false,if_true,beq_iff_eq,reduceCtorEq]
 ·rw[show (x.natAbs:Int)=-x from J,show (y.natAbs:Int)=-y from J,Int.neg_mul_neg]
 ·have e:(!(true == false))=true:=rfl
  rw[e,if_pos rfl,show (x.natAbs:Int)=-x from J,show (y.natAbs:Int)=y from J,Int.neg_mul,Int.neg_neg]
 ·have e:(!(false == true))=true:=rfl
  rw[e,if_pos rfl,show (x.natAbs:Int)=x from J,show (y.natAbs:Int)=-y from J,Int.mul_neg,Int.neg_neg]
 ·rw[show (x.natAbs:Int)=x from J,show (y.natAbs:Int)=y from J]
theorem Zf {x y:Int} (hx:x < 0) (hy:y < 0):jZ y.natAbs x.natAbs=lN x y:=by
 unfold jZ lN
 by_cases h1:x < y
 ·rw[if_pos J,if_pos h1]
 ·by_cases h2:y < x
  ·rw[if_neg J,if_pos J,if_neg h1,if_pos h2]
  ·rw[if_neg J,if_neg J,if_neg h1,if_neg h2]
theorem YW {x y:Int} (hx:¬ x < 0) (hy:¬ y < 0):jZ x.natAbs y.natAbs=lN x y:=by
 unfold jZ lN
 by_cases h1:x < y
 ·rw[if_pos J,if_pos h1]
 ·by_cases h2:y < x
  ·rw[if_neg J,if_pos J,if_neg h1,if_pos h2]
  ·rw[if_neg J,if_neg J,if_neg h1,if_neg h2]
theorem Yn {x y:Int} (hx:x < 0) (hy:¬ y < 0):lN x y=-1:=by unfold lN; rw[if_pos J]
theorem Yo {x y:Int} (hx:¬ x < 0) (hy:y < 0):lN x y=1:=by unfold lN; rw[if_neg J,if_pos J]
theorem jU (l:List Int) (hl:l.length<=16777216):Fn prog 70 [⟨aq,l⟩] true [⟨aq,l⟩]:=by
 refine fe func70 ntmps70 results70 fun hwf=>?_
 refine Nz ?_
 refine kT.eq ?_
 refine Nz ?_
 refine IZ (fun h=>?_) (fun h=>?_)
 ·try simp (maxSteps:=9^9) only[go_sem,h]
 ·refine Sz ?_
  refine Nz ?_
  omega
theorem N8 (s:Bool) (n:Nat):Fn prog 227 [⟨.bool,s⟩,⟨aq,aB n⟩] false [⟨dM,bE (eV s n)⟩]:=by
 rw[AR]
 cases s
 ·refine fe func227 ntmps227 results227 fun hwf=>?_
  try simp (maxSteps:=9^9) only[go_sem]
 ·refine fe func227 ntmps227 results227 fun hwf=>?_
  refine Nz ?_
  simp only[OB]
theorem jY {s:Bool} {n:Nat} {z:Int} (h:eV s n=z):Fn prog 227 [⟨.bool,s⟩,⟨aq,aB n⟩] false [⟨dM,bE z⟩]:=h ▸ N8 s n
theorem Fx (z:Int):Fn prog 241 [⟨dM,bE z⟩] false [⟨dM,bE (-z)⟩]:=by
 refine fe func241 ntmps241 results241 fun hwf=>?_
 refine Sz ?_
 refine cw (jY (s:=!decide (z < 0)) (n:=z.natAbs) (z:=-z) (by unfold eV; by_cases h:z < 0<;>simp[h]<;>omega)) ?_
 try simp (maxSteps:=9^9) only[go_sem]
theorem S3 (x y:Int) (hx:nl x.natAbs<=10000) (hy:nl y.natAbs<=10000):Fn prog 152 [⟨dM,bE x⟩,⟨dM,bE y⟩] false [⟨dM,bE (x+y)⟩]:=by
 refine fe func152 ntmps152 results152 fun hwf=>?_
 refine Nz ?_
 refine ig (fun h=>?_) (fun h=>?_)
 ·have hs:decide (x < 0)=decide (y < 0):=by simpa using h
  refine Cz (FQ x.natAbs y.natAbs J J) ?_
  refine cw (jY (s:=decide (x < 0)) (n:=x.natAbs+y.natAbs) (z:=x+y) (by unfold eV; by_cases h:x < 0<;>by_cases h2:y < 0<;>simp[h,h2] at hs ⊢<;>omega)) ?_
  refine Nz ?_
  kernel_rfl
 ·have hs:decide (x < 0) ≠ decide (y < 0):=by simpa using h
  refine Bz (nm (aB x.natAbs) (aB y.natAbs)) ?_
  refine ao (fun hc=>?_) (fun hc=>?_)
  ·rw[qT] at hc
   refine Cz (wO x.natAbs y.natAbs hc J) ?_
   refine cw (jY (s:=decide (x < 0)) (n:=x.natAbs - y.natAbs) (z:=x+y) (by unfold eV; by_cases h:x < 0<;>by_cases h2:y < 0<;>simp[h,h2] at hs ⊢<;>omega)) ?_
   refine Nz ?_
   kernel_rfl
  ·rw[qT] at hc
   refine Cz (wO y.natAbs x.natAbs J J) ?_
   refine cw (jY (s:=decide (y < 0)) (n:=y.natAbs - x.natAbs) (z:=x+y) (by unfold eV; by_cases h:x < 0<;>by_cases h2:y < 0<;>simp[h,h2] at hs ⊢<;>omega)) ?_
   refine Nz ?_
   kernel_rfl
theorem E1 (x y:Int) (hx:nl x.natAbs<=10000) (hy:nl y.natAbs<=10000):Fn prog 150 [⟨dM,bE x⟩,⟨dM,bE y⟩] false [⟨dM,bE (x * y)⟩]:=by
 refine fe func150 ntmps150 results150 fun hwf=>?_
 refine Cz (mM x.natAbs y.natAbs J J) ?_
 refine cw (jY (s:=!(decide (x < 0) == decide (y < 0))) (n:=x.natAbs * y.natAbs) (z:=x * y) (Zm x y)) ?_
 refine Nz ?_
 kernel_rfl
theorem SL (x y:Int):Fn prog 149 [⟨dM,bE x⟩,⟨dM,bE y⟩] false [⟨.int,lN x y⟩]:=by
 by_cases hx:x < 0<;>by_cases hy:y < 0
 ·refine fe func149 ntmps149 results149 fun hwf=>?_
  refine fy hx hy ?_
  refine cw (nm (aB y.natAbs) (aB x.natAbs)) ?_
  refine Nz ?_
  exact Zf hx hy
 ·refine fe func149 ntmps149 results149 fun hwf=>?_
  refine tW hx hy ?_
  exact (Yn hx hy).symm
 ·refine fe func149 ntmps149 results149 fun hwf=>?_
  refine tW hx hy ?_
  exact (Yo hx hy).symm
 ·refine fe func149 ntmps149 results149 fun hwf=>?_
  refine fy hx hy ?_
  refine cw (nm (aB x.natAbs) (aB y.natAbs)) ?_
  refine Nz ?_
  exact YW hx hy
theorem QK (z:Int) (hz:nl z.natAbs<=60):Fn prog 232 [⟨dM,bE z⟩] true [⟨dM,bE z⟩]:=by
 have hA:¬ (60:Int) < nl z.natAbs:=J
 refine fe func232 ntmps232 results232 fun hwf=>?_
 refine Tz hA ?_
 refine cw (jU (aB z.natAbs) (by show nl z.natAbs<=16777216; omega)) ?_
 refine Nz ?_
 kernel_rfl
theorem QC (s:Bool) (l:List Int):okB (s,l)=(rD l && !(s && decide ((l.length:Int)=0))):=by
 by_cases h1:ym l
 ·by_cases h2:l.length=0
  ·cases s
   ·rw[okB,jr ⟨h1,fun h=>by cases h.1⟩,rD,jr h1]; rfl
   ·rw[okB,jb fun h=>h.2 ⟨rfl,h2⟩,h2]; simp
  ·rw[okB,jr ⟨h1,fun h=>h2 h.2⟩,rD,jr h1,ak J]; simp
 ·rw[okB,jb fun h=>h1 h.1,rD,jb h1]; rfl
theorem dE (x:DB):Fn prog 163 [⟨dM,x⟩] false [⟨.bool,okB x⟩]:=by
 obtain⟨s,l⟩:=x
 rw[QC]
 cases hN:rD l<;>cases s
 all_goals
  refine fe func163 ntmps163 results163 fun hwf=>?_
  refine Bz (iY l) ?_
  try simp (maxSteps:=9^9) only[go_sem,hN]
theorem eP (x:DB):Fn prog 304 [⟨dM,x⟩] false [⟨.bool,okB x⟩]:=by
 obtain⟨s,l⟩:=x
 rw[QC]
 by_cases hl:(l.length:Int)=0
 ·have hl2:¬ 0 < (l.length:Int):=J
  cases hN:rD l<;>cases s
  all_goals
   refine fe func304 ntmps304 results304 fun hwf=>?_
   refine Bz (gZ l) ?_
   try simp (maxSteps:=9^9) only[go_sem,hN,hl,hl2]
 ·have hl2:0 < (l.length:Int):=J
  cases hN:rD l<;>cases s
  all_goals
   refine fe func304 ntmps304 results304 fun hwf=>?_
   refine Bz (gZ l) ?_
   try simp (maxSteps:=9^9) only[go_sem,hN,hl,hl2]
theorem FV (n:Nat) (hn:nl n<=60):Fn prog 355 [⟨aq,aB n⟩] false [⟨aq,aB n⟩]:=by
 have hA:¬ (60:Int) < nl n:=J
 have ht:=jo (aB n)
 rw[vD] at ht
 refine fe func355 ntmps355 results355 fun hwf=>?_
 refine Bz ht ?_
 try simp (maxSteps:=9^9) only[go_sem,hA]
theorem PM (s:Bool) (n:Nat) (hn:nl n<=60):Fn prog 310 [⟨.bool,s⟩,⟨aq,aB n⟩] true [⟨dM,bE (eV s n)⟩]:=by
 rw[AR]
 cases s
 ·refine fe func310 ntmps310 results310 fun hwf=>?_
  refine Cz (FV n hn) ?_
  omega
 ·refine fe func310 ntmps310 results310 fun hwf=>?_
  refine Cz (FV n hn) ?_
  simp only[OB]
theorem fO {s:Bool} {n:Nat} {z:Int} (h:eV s n=z) (hn:nl n<=60):Fn prog 310 [⟨.bool,s⟩,⟨aq,aB n⟩] true [⟨dM,bE z⟩]:=h ▸ PM s n hn
theorem xe (x y:Int) (hx:nl x.natAbs<=59) (hy:nl y.natAbs<=59):Fn prog 308 [⟨dM,bE x⟩,⟨dM,bE y⟩] true [⟨dM,bE (x+y)⟩]:=by
 have hl:=CV x.natAbs y.natAbs
 have hl1:=iM (Nat.sub_le x.natAbs y.natAbs)
 have hl2:=iM (Nat.sub_le y.natAbs x.natAbs)
 refine fe func308 ntmps308 results308 fun hwf=>?_
 refine Nz ?_
 refine ig (fun h=>?_) (fun h=>?_)
 ·have hs:decide (x < 0)=decide (y < 0):=by simpa using h
  refine Cz (RE x.natAbs y.natAbs J J) ?_
  refine cw (fO (s:=decide (x < 0)) (n:=x.natAbs+y.natAbs) (z:=x+y) (by unfold eV; by_cases h:x < 0<;>by_cases h2:y < 0<;>simp[h,h2] at hs ⊢<;>omega) J) ?_
  refine Nz ?_
  kernel_rfl
 ·have hs:decide (x < 0) ≠ decide (y < 0):=by simpa using h
  refine Bz (tg (aB x.natAbs) (aB y.natAbs)) ?_
  refine ao (fun hc=>?_) (fun hc=>?_)
  ·rw[qT] at hc
   refine Cz (wQ x.natAbs y.natAbs hc J) ?_
   refine cw (fO (s:=decide (x < 0)) (n:=x.natAbs - y.natAbs) (z:=x+y) (by unfold eV; by_cases h:x < 0<;>by_cases h2:y < 0<;>simp[h,h2] at hs ⊢<;>omega) J) ?_
   refine Nz ?_
   kernel_rfl
  ·rw[qT] at hc
   refine Cz (wQ y.natAbs x.natAbs J J) ?_
   refine cw (fO (s:=decide (y < 0)) (n:=y.natAbs - x.natAbs) (z:=x+y) (by unfold eV; by_cases h:x < 0<;>by_cases h2:y < 0<;>simp[h,h2] at hs ⊢<;>omega) J) ?_
   refine Nz ?_
   kernel_rfl
@[go_sem] theorem aen (q:Rat):oD (some q)=fo q:=(rfl)
@[go_sem] theorem aem:oD none=rZ:=(rfl)
attribute [go_sem] fo rZ bZ
theorem yK {n:Nat}:((nl n:Int)=1/\(dg n 0:Int)=1) ↔ n=1:=by
 constructor
 ·rintro⟨h1,h2⟩
  have:=uD (b:=n) J
  omega
 ·rintro rfl
  have h:nl 1=1:=by rw[Ie ae,show 1 / 1000000000=0 from rfl,jK]
  exact⟨J,by have:=uD h; omega⟩
theorem dQ (n:Nat):Fn prog 165 [⟨aq,aB n⟩] false [⟨.bool,decide (n=1)⟩]:=by
 by_cases h1:(nl n:Int)=1
 ·have hiff:=@yK n
  refine fe func165 ntmps165 results165 fun hwf=>?_
  refine Tz h1 ?_
  rw[decide_eq_decide]; omega
 ·have hn:n ≠ 1:=fun h=>h1 (yK.2 h).1
  refine fe func165 ntmps165 results165 fun hwf=>?_
  refine Uz h1 ?_
  simp[hn]
theorem cn (n:Nat):Fn prog 306 [⟨aq,aB n⟩] false [⟨.bool,decide (n=1)⟩]:=by
 by_cases h1:(nl n:Int)=1
 ·have hiff:=@yK n
  refine fe func306 ntmps306 results306 fun hwf=>?_
  refine Tz h1 ?_
  rw[decide_eq_decide]; omega
 ·have hn:n ≠ 1:=fun h=>h1 (yK.2 h).1
  refine fe func306 ntmps306 results306 fun hwf=>?_
  refine Uz h1 ?_
  simp[hn]
theorem Qm {a b:Bool} (h:a=true ↔ b=true):a=b:=by cases a<;>cases b<;>simp_all
theorem Ev {x:DB}:okB x=true ↔ DH x:=by
 constructor
 ·intro h; exact Classical.byContradiction fun hn=>by rw[okB,jb hn] at h; cases h
 ·exact fun h=>jr h
theorem Ds {l:List Int}:rD l=true ↔ ym l:=by
 constructor
 ·intro h; exact Classical.byContradiction fun hn=>by rw[rD,jb hn] at h; cases h
 ·exact fun h=>jr h
theorem RJ (x:DB) (d:List Int):br (x,d)=(okB x && rD d && !decide ((d.length:Int)=0) && !decide (24 < (x.2.length:Int)) && !decide (24 < (d.length:Int)) && decide (gcd (val x.2) (val d)=1)):=by
 apply Qm
 rw[X9]
 simp only[Bool.and_eq_true,Ev,Ds,Bool.not_eq_true',decide_eq_false_iff_not,decide_eq_true_eq,and_assoc]
 constructor
 ·rintro⟨h1,h2,h3,h4,h5,h6⟩
  refine⟨h1,h2,fun h=>h3 (List.eq_nil_of_length_eq_zero J),J,J,h6⟩
 ·rintro⟨h1,h2,h3,h4,h5,h6⟩
  refine⟨h1,h2,fun h=>h3 (by rw[h]; rfl),J,J,h6⟩
theorem kI (r:DR):Fn prog 88 [⟨au,r⟩] false [⟨.bool,br r⟩]:=by
 obtain⟨x,d⟩:=r
 rw[RJ]
 cases h1:okB x
 ·refine fe func88 ntmps88 results88 fun hwf=>?_
  refine Bz (dE x) ?_
  try simp (maxSteps:=9^9) only[go_sem,h1]
 cases h2:rD d
 ·refine fe func88 ntmps88 results88 fun hwf=>?_
  refine Bz (dE x) ?_
  refine Tz h1 ?_
  refine cw (iY d) ?_
  refine Nz ?_
  try simp (maxSteps:=9^9) only[go_sem,h2]
 by_cases h3:(d.length:Int)=0
 ·refine fe func88 ntmps88 results88 fun hwf=>?_
  refine Bz (dE x) ?_
  refine Tz h1 ?_
  refine cw (iY d) ?_
  refine Nz ?_
  try simp (maxSteps:=9^9) only[go_sem,h2,h3]
 by_cases h4:24 < (x.2.length:Int)
 ·refine fe func88 ntmps88 results88 fun hwf=>?_
  refine Bz (dE x) ?_
  refine Tz h1 ?_
  refine cw (iY d) ?_
  refine Nz ?_
  try simp (maxSteps:=9^9) only[go_sem,h2,h3,h4]
 by_cases h5:24 < (d.length:Int)
 ·refine fe func88 ntmps88 results88 fun hwf=>?_
  refine Bz (dE x) ?_
  refine Tz h1 ?_
  refine cw (iY d) ?_
  refine Nz ?_
  try simp (maxSteps:=9^9) only[go_sem,h2,h3,h4,h5]
 obtain⟨z,rfl,_⟩:=AN.1 (Ev.1 h1)
 obtain⟨n,rfl,_⟩:=vZ.1 (Ds.1 h2)
 have h1':okB (decide (z < 0),aB z.natAbs)=true:=h1
 have h3':¬ (nl n:Int)=0:=h3
 have h4':¬ 24 < (nl z.natAbs:Int):=h4
 have h5':¬ 24 < (nl n:Int):=h5
 have hv:val (bE z).2=z.natAbs:=jW _
 rw[hv,jW]
 by_cases hn:n=1
 ·refine fe func88 ntmps88 results88 fun hwf=>?_
  refine Bz (dE (bE z)) ?_
  refine Tz h1' ?_
  refine cw (iY (aB n)) ?_
  refine Nz ?_
  try simp (maxSteps:=9^9) only[go_sem,h2,h3',h4',h5']
  refine Bz (dQ n) ?_
  refine Uz hn ?_
  simp
 ·refine fe func88 ntmps88 results88 fun hwf=>?_
  refine Bz (dE (bE z)) ?_
  refine Tz h1' ?_
  refine cw (iY (aB n)) ?_
  refine Nz ?_
  try simp (maxSteps:=9^9) only[go_sem,h2,h3',h4',h5']
  refine Bz (dQ n) ?_
  refine Tz hn ?_
  refine cw (kL z.natAbs n J J) ?_
  refine Sz ?_
  refine cw (dQ (gcd z.natAbs n)) ?_
  try simp (maxSteps:=9^9) only[go_sem]
theorem k8 (r:DR):Fn prog 267 [⟨au,r⟩] false [⟨.bool,br r⟩]:=by
 obtain⟨x,d⟩:=r
 rw[RJ]
 cases h1:okB x
 ·refine fe func267 ntmps267 results267 fun hwf=>?_
  refine Bz (eP x) ?_
  try simp (maxSteps:=9^9) only[go_sem,h1]
 cases h2:rD d
 ·refine fe func267 ntmps267 results267 fun hwf=>?_
  refine Bz (eP x) ?_
  refine Tz h1 ?_
  refine cw (gZ d) ?_
  refine Nz ?_
  try simp (maxSteps:=9^9) only[go_sem,h2]
 by_cases h3:(d.length:Int)=0
 ·refine fe func267 ntmps267 results267 fun hwf=>?_
  refine Bz (eP x) ?_
  refine Tz h1 ?_
  refine cw (gZ d) ?_
  refine Nz ?_
  try simp (maxSteps:=9^9) only[go_sem,h2,h3]
 by_cases h5:24 < (d.length:Int)
 ·refine fe func267 ntmps267 results267 fun hwf=>?_
  refine Bz (eP x) ?_
  refine Tz h1 ?_
  refine cw (gZ d) ?_
  refine Nz ?_
  try simp (maxSteps:=9^9) only[go_sem,h2,h3,h5]
 by_cases h4:24 < (x.2.length:Int)
 ·refine fe func267 ntmps267 results267 fun hwf=>?_
  refine Bz (eP x) ?_
  refine Tz h1 ?_
  refine cw (gZ d) ?_
  refine Nz ?_
  try simp (maxSteps:=9^9) only[go_sem,h2,h3,h5,h4]
 obtain⟨z,rfl,_⟩:=AN.1 (Ev.1 h1)
 obtain⟨n,rfl,_⟩:=vZ.1 (Ds.1 h2)
 have h1':okB (decide (z < 0),aB z.natAbs)=true:=h1
 have h3':¬ (nl n:Int)=0:=h3
 have h4':¬ 24 < (nl z.natAbs:Int):=h4
 have h5':¬ 24 < (nl n:Int):=h5
 have hv:val (bE z).2=z.natAbs:=jW _
 rw[hv,jW]
 refine fe func267 ntmps267 results267 fun hwf=>?_
 refine Bz (eP (bE z)) ?_
 refine Tz h1' ?_
 refine cw (gZ (aB n)) ?_
 refine Nz ?_
 try simp (maxSteps:=9^9) only[go_sem,h2,h3',h4',h5']
 refine Cz (kK z.natAbs n J J) ?_
 refine cw (cn (gcd z.natAbs n)) ?_
 try simp (maxSteps:=9^9) only[go_sem]
theorem h9 (x:Option Rat):Fn prog 95 [⟨au,oD x⟩] false [⟨.bool,x.isSome⟩]:=by
 cases x with
 | none =>
  refine fe func95 ntmps95 results95 fun hwf=>?_
  refine Nz ?_
  rfl
 | some q =>
  have h:(0:Int) < nl q.den:=OB.2 (IU q)
  refine fe func95 ntmps95 results95 fun hwf=>?_
  try simp (maxSteps:=9^9) only[go_sem,h]
theorem yd {q:Rat} (h:small q):oD (fZ q)=((decide (q.num < 0),aB q.num.natAbs),aB q.den):=by rw[dO h]; rfl
theorem fY {q:Rat} (h:¬ small q):oD (fZ q)=((false,[]),[]):=by rw[Sr h]; rfl
theorem nT (x:Int) (n:Nat) (hx:nl x.natAbs<=10000) (hy:nl n<=10000):Fn prog 150 [⟨dM,bE x⟩,⟨dM,(false,aB n)⟩] false [⟨dM,bE (x * n)⟩]:=by
 have:=E1 x n hx (by simpa using hy)
 rw[AB] at this
 exact this
theorem pg (z:Int) (n:Nat) (hn:n ≠ 0) (hz:nl z.natAbs<=10000) (hnl:nl n<=10000):Fn prog 153 [⟨dM,bE z⟩,⟨aq,aB n⟩] true [⟨au,oD (fZ (_root_.mkRat z n))⟩]:=by
 obtain⟨m1,m2,m3⟩:=C2 (z:=z) hn
 generalize hq:_root_.mkRat z n=q at *
 have hg0:0 < gcd z.natAbs n:=Nat.gcd_pos_of_pos_right _ (pos_of_ne_zero hn)
 have hl1:=iM (div_le_self z.natAbs (gcd z.natAbs n))
 have hl2:=iM (div_le_self n (gcd z.natAbs n))
 have hl3:=iM (Nat.gcd_le_right z.natAbs (pos_of_ne_zero hn))
 rw[<-m1] at hl1
 rw[<-m2] at hl2
 have hpath:(decide (n=1)=true/\z.natAbs=q.num.natAbs/\n=q.den)\/(decide (n=1)=false/\decide (gcd z.natAbs n=1)=true/\z.natAbs=q.num.natAbs/\n=q.den)\/(decide (n=1)=false/\decide (gcd z.natAbs n=1)=false):=by
  by_cases h1:n=1
  ·refine .inl ⟨aj h1,?_,?_⟩
   ·rw[m1,h1,Nat.gcd_one_right,div_one]
   ·rw[m2,h1,Nat.gcd_one_right,div_one]
  ·by_cases h2:gcd z.natAbs n=1
   ·exact .inr (.inl ⟨ak h1,aj h2,by rw[m1,h2,div_one],by rw[m2,h2,div_one]⟩)
   ·exact .inr (.inr ⟨ak h1,ak h2⟩)
 have hcn:=jU (aB q.den) (by show nl q.den<=16777216; omega)
 have hob:small q->Fn prog 232 [⟨dM,(decide (z < 0),aB q.num.natAbs)⟩] true [⟨dM,(decide (z < 0),aB q.num.natAbs)⟩]:=fun hs=>by
  have:=QK q.num (by have:=hs.1; omega)
  unfold bE at this
  rw[m3] at this
  exact this
 have hend:small q\/(24:Int) < nl q.num.natAbs\/(¬ (24:Int) < nl q.num.natAbs/\(24:Int) < nl q.den):=by unfold small; omega
 rcases hpath with ⟨hd,e1,e2⟩|⟨hd,hd2,e1,e2⟩|⟨hd,hd2⟩
 ·rcases hend with hs|hA|⟨hA,hB⟩
  ·rw[yd hs,m3]
   have hA:¬ (24:Int) < nl q.num.natAbs:=by have:=hs.1; omega
   have hB:¬ (24:Int) < nl q.den:=by have:=hs.2; omega
   have hob:=hob hs
   rw[<-e1] at hA hob; rw[<-e2] at hB hcn; rw[<-e1,<-e2]
   refine fe func153 ntmps153 results153 fun hwf=>?_
   refine Bz (dQ n) ?_
   refine qk hd hA hB ?_
   refine cw hob ?_
   refine Sz ?_
   refine cw hcn ?_
   try simp (maxSteps:=9^9) only[go_sem]
  ·rw[fY (by unfold small; omega)]
   rw[<-e1] at hA
   refine fe func153 ntmps153 results153 fun hwf=>?_
   refine Bz (dQ n) ?_
   try simp (maxSteps:=9^9) only[go_sem,hd,hA]
  ·rw[fY (by unfold small; omega)]
   rw[<-e1] at hA; rw[<-e2] at hB
   refine fe func153 ntmps153 results153 fun hwf=>?_
   refine Bz (dQ n) ?_
   try simp (maxSteps:=9^9) only[go_sem,hd,hA,hB]
 ·rcases hend with hs|hA|⟨hA,hB⟩
  ·rw[yd hs,m3]
   have hA:¬ (24:Int) < nl q.num.natAbs:=by have:=hs.1; omega
   have hB:¬ (24:Int) < nl q.den:=by have:=hs.2; omega
   have hob:=hob hs
   rw[<-e1] at hA hob; rw[<-e2] at hB hcn; rw[<-e1,<-e2]
   refine fe func153 ntmps153 results153 fun hwf=>?_
   refine Bz (dQ n) ?_
   refine Tz hd ?_
   refine cw (kL z.natAbs n J J) ?_
   refine Bz (dQ (gcd z.natAbs n)) ?_
   refine qk hd2 hA hB ?_
   refine cw hob ?_
   refine Sz ?_
   refine cw hcn ?_
   try simp (maxSteps:=9^9) only[go_sem]
  ·rw[fY (by unfold small; omega)]
   rw[<-e1] at hA
   refine fe func153 ntmps153 results153 fun hwf=>?_
   refine Bz (dQ n) ?_
   refine Tz hd ?_
   refine cw (kL z.natAbs n J J) ?_
   refine Bz (dQ (gcd z.natAbs n)) ?_
   try simp (maxSteps:=9^9) only[go_sem,hd2,hA]
  ·rw[fY (by unfold small; omega)]
   rw[<-e1] at hA; rw[<-e2] at hB
   refine fe func153 ntmps153 results153 fun hwf=>?_
   refine Bz (dQ n) ?_
   refine Tz hd ?_
   refine cw (kL z.natAbs n J J) ?_
   refine Bz (dQ (gcd z.natAbs n)) ?_
   try simp (maxSteps:=9^9) only[go_sem,hd2,hA,hB]
 ·rcases hend with hs|hA|⟨hA,hB⟩
  ·rw[yd hs,m3]
   have hA:¬ (24:Int) < nl q.num.natAbs:=by have:=hs.1; omega
   have hB:¬ (24:Int) < nl q.den:=by have:=hs.2; omega
   have hob:=hob hs
   refine fe func153 ntmps153 results153 fun hwf=>?_
   refine Bz (dQ n) ?_
   refine Tz hd ?_
   refine cw (kL z.natAbs n J J) ?_
   refine Bz (dQ (gcd z.natAbs n)) ?_
   refine Uz hd2 ?_
   have c1:=kN z.natAbs (gcd z.natAbs n) hg0 J J
   rw[<-m1] at c1
   refine Bz c1 ?_
   have c2:=kN n (gcd z.natAbs n) hg0 J J
   rw[<-m2] at c2
   refine Bz c2 ?_
   refine fy hA hB ?_
   refine cw hob ?_
   refine Sz ?_
   refine cw hcn ?_
   try simp (maxSteps:=9^9) only[go_sem]
  ·rw[fY (by unfold small; omega)]
   refine fe func153 ntmps153 results153 fun hwf=>?_
   refine Bz (dQ n) ?_
   refine Tz hd ?_
   refine cw (kL z.natAbs n J J) ?_
   refine Bz (dQ (gcd z.natAbs n)) ?_
   refine Uz hd2 ?_
   have c1:=kN z.natAbs (gcd z.natAbs n) hg0 J J
   rw[<-m1] at c1
   refine Bz c1 ?_
   have c2:=kN n (gcd z.natAbs n) hg0 J J
   rw[<-m2] at c2
   refine Bz c2 ?_
   try simp (maxSteps:=9^9) only[go_sem,hA]
  ·rw[fY (by unfold small; omega)]
   refine fe func153 ntmps153 results153 fun hwf=>?_
   refine Bz (dQ n) ?_
   refine Tz hd ?_
   refine cw (kL z.natAbs n J J) ?_
   refine Bz (dQ (gcd z.natAbs n)) ?_
   refine Uz hd2 ?_
   have c1:=kN z.natAbs (gcd z.natAbs n) hg0 J J
   rw[<-m1] at c1
   refine Bz c1 ?_
   have c2:=kN n (gcd z.natAbs n) hg0 J J
   rw[<-m2] at c2
   refine Bz c2 ?_
   try simp (maxSteps:=9^9) only[go_sem,hA,hB]
theorem LK (s:Bool) (a:Nat):(eV s a).natAbs=a:=by unfold eV; split<;>omega
theorem Y5 (s:Bool) (a:Nat):decide (eV s a < 0)=(s && decide (0 < a)):=by
 unfold eV
 cases s
 ·simp
 ·simp<;>omega
theorem xP (s:Bool) (a b:Nat) (hb:b ≠ 0) (ha:nl a<=60) (hbl:nl b<=60):Fn prog 309 [⟨.bool,s⟩,⟨aq,aB a⟩,⟨aq,aB b⟩] true [⟨au,oD (fZ (_root_.mkRat (eV s a) b))⟩]:=by
 obtain⟨m1,m2,m3⟩:=C2 (z:=eV s a) hb
 rw[LK] at m1 m2
 rw[Y5] at m3
 generalize hq:_root_.mkRat (eV s a) b=q at *
 have hg0:0 < gcd a b:=Nat.gcd_pos_of_pos_right _ (pos_of_ne_zero hb)
 have hl1:=iM (div_le_self a (gcd a b))
 have hl2:=iM (div_le_self b (gcd a b))
 have hl3:=iM (Nat.gcd_le_right a (pos_of_ne_zero hb))
 rw[<-m1] at hl1
 rw[<-m2] at hl2
 have hb0:¬ (nl b:Int)=0:=fun h=>hb (dz.1 J)
 have ht1:=jo (aB a)
 rw[vD] at ht1
 have ht2:=jo (aB b)
 rw[vD] at ht2
 have hqs:eV s q.num.natAbs=q.num:=by
  have h1:(0 < a)->0 < q.num.natAbs:=fun h=>by
   rw[m1]; exact Nat.div_pos (Nat.le_of_dvd h (Nat.gcd_dvd_left ..)) hg0
  have h2:a=0->q.num.natAbs=0:=fun h=>by rw[m1,h,Nat.zero_div]
  unfold eV
  cases s
  ·have:¬ q.num < 0:=by simpa using m3
   simp only[false_eq_true,if_false]; omega
  ·simp only[if_true]
   rcases eq_zero_or_pos a with h|h
   ·have:=h2 h; omega
   ·have:=h1 h
    have:q.num < 0:=by simpa [h] using m3
    omega
 have hpath:(decide (b=1)=true/\a=q.num.natAbs/\b=q.den)\/(decide (b=1)=false/\decide (gcd a b=1)=true/\a=q.num.natAbs/\b=q.den)\/(decide (b=1)=false/\decide (gcd a b=1)=false):=by
  by_cases h1:b=1
  ·refine .inl ⟨aj h1,?_,?_⟩
   ·rw[m1,h1,Nat.gcd_one_right,div_one]
   ·rw[m2,h1,Nat.gcd_one_right,div_one]
  ·by_cases h2:gcd a b=1
   ·exact .inr (.inl ⟨ak h1,aj h2,by rw[m1,h2,div_one],by rw[m2,h2,div_one]⟩)
   ·exact .inr (.inr ⟨ak h1,ak h2⟩)
 have hob:small q->Fn prog 310 [⟨.bool,s⟩,⟨aq,aB q.num.natAbs⟩] true [⟨dM,bE q.num⟩]:=fun hs=>fO hqs (by have:=hs.1; omega)
 have hend:small q\/(24:Int) < nl q.num.natAbs\/(¬ (24:Int) < nl q.num.natAbs/\(24:Int) < nl q.den):=by unfold small; omega
 rcases hpath with ⟨hd,e1,e2⟩|⟨hd,hd2,e1,e2⟩|⟨hd,hd2⟩
 ·rcases hend with hs|hA|⟨hA,hB⟩
  ·rw[dO hs]
   have hA:¬ (24:Int) < nl q.num.natAbs:=by have:=hs.1; omega
   have hB:¬ (24:Int) < nl q.den:=by have:=hs.2; omega
   have hob:=hob hs
   rw[<-e1] at hA hob; rw[<-e2] at hB
   refine fe func309 ntmps309 results309 fun hwf=>?_
   refine Cz ht1 ?_
   refine cw ht2 ?_
   refine Nz ?_
   refine Tz hb0 ?_
   refine cw (cn b) ?_
   refine Nz ?_
   refine qk hd hA hB ?_
   refine cw hob ?_
   refine Sz ?_
   try simp (maxSteps:=9^9) only[go_sem,e2]
   try omega
  ·rw[fY (by unfold small; omega)]
   rw[<-e1] at hA
   refine fe func309 ntmps309 results309 fun hwf=>?_
   refine Cz ht1 ?_
   refine cw ht2 ?_
   refine Nz ?_
   refine Tz hb0 ?_
   refine cw (cn b) ?_
   refine Nz ?_
   try simp (maxSteps:=9^9) only[go_sem,hd,hA]
  ·rw[fY (by unfold small; omega)]
   rw[<-e1] at hA; rw[<-e2] at hB
   refine fe func309 ntmps309 results309 fun hwf=>?_
   refine Cz ht1 ?_
   refine cw ht2 ?_
   refine Nz ?_
   refine Tz hb0 ?_
   refine cw (cn b) ?_
   refine Nz ?_
   try simp (maxSteps:=9^9) only[go_sem,hd,hA,hB]
 ·rcases hend with hs|hA|⟨hA,hB⟩
  ·rw[dO hs]
   have hA:¬ (24:Int) < nl q.num.natAbs:=by have:=hs.1; omega
   have hB:¬ (24:Int) < nl q.den:=by have:=hs.2; omega
   have hob:=hob hs
   rw[<-e1] at hA hob; rw[<-e2] at hB
   refine fe func309 ntmps309 results309 fun hwf=>?_
   refine Cz ht1 ?_
   refine cw ht2 ?_
   refine Nz ?_
   refine Tz hb0 ?_
   refine cw (cn b) ?_
   refine Nz ?_
   refine Tz hd ?_
   refine cw (kK a b J J) ?_
   refine Bz (cn (gcd a b)) ?_
   refine qk hd2 hA hB ?_
   refine cw hob ?_
   refine Sz ?_
   try simp (maxSteps:=9^9) only[go_sem,e2]
   try omega
  ·rw[fY (by unfold small; omega)]
   rw[<-e1] at hA
   refine fe func309 ntmps309 results309 fun hwf=>?_
   refine Cz ht1 ?_
   refine cw ht2 ?_
   refine Nz ?_
   refine Tz hb0 ?_
   refine cw (cn b) ?_
   refine Nz ?_
   refine Tz hd ?_
   refine cw (kK a b J J) ?_
   refine Bz (cn (gcd a b)) ?_
   try simp (maxSteps:=9^9) only[go_sem,hd2,hA]
  ·rw[fY (by unfold small; omega)]
   rw[<-e1] at hA; rw[<-e2] at hB
   refine fe func309 ntmps309 results309 fun hwf=>?_
   refine Cz ht1 ?_
   refine cw ht2 ?_
   refine Nz ?_
   refine Tz hb0 ?_
   refine cw (cn b) ?_
   refine Nz ?_
   refine Tz hd ?_
   refine cw (kK a b J J) ?_
   refine Bz (cn (gcd a b)) ?_
   try simp (maxSteps:=9^9) only[go_sem,hd2,hA,hB]
 ·rcases hend with hs|hA|⟨hA,hB⟩
  ·rw[dO hs]
   have hA:¬ (24:Int) < nl q.num.natAbs:=by have:=hs.1; omega
   have hB:¬ (24:Int) < nl q.den:=by have:=hs.2; omega
   have hob:=hob hs
   refine fe func309 ntmps309 results309 fun hwf=>?_
   refine Cz ht1 ?_
   refine cw ht2 ?_
   refine Nz ?_
   refine Tz hb0 ?_
   refine cw (cn b) ?_
   refine Nz ?_
   refine Tz hd ?_
   refine cw (kK a b J J) ?_
   refine Bz (cn (gcd a b)) ?_
   refine Uz hd2 ?_
   have c1:=jR a (gcd a b) hg0 J J
   rw[<-m1] at c1
   refine Bz c1 ?_
   have c2:=jR b (gcd a b) hg0 J J
   rw[<-m2] at c2
   refine Bz c2 ?_
   refine fy hA hB ?_
   refine cw hob ?_
   refine Sz ?_
   try simp (maxSteps:=9^9) only[go_sem]
   try omega
  ·rw[fY (by unfold small; omega)]
   refine fe func309 ntmps309 results309 fun hwf=>?_
   refine Cz ht1 ?_
   refine cw ht2 ?_
   refine Nz ?_
   refine Tz hb0 ?_
   refine cw (cn b) ?_
   refine Nz ?_
   refine Tz hd ?_
   refine cw (kK a b J J) ?_
   refine Bz (cn (gcd a b)) ?_
   refine Uz hd2 ?_
   have c1:=jR a (gcd a b) hg0 J J
   rw[<-m1] at c1
   refine Bz c1 ?_
   have c2:=jR b (gcd a b) hg0 J J
   rw[<-m2] at c2
   refine Bz c2 ?_
   try simp (maxSteps:=9^9) only[go_sem,hA]
  ·rw[fY (by unfold small; omega)]
   refine fe func309 ntmps309 results309 fun hwf=>?_
   refine Cz ht1 ?_
   refine cw ht2 ?_
   refine Nz ?_
   refine Tz hb0 ?_
   refine cw (cn b) ?_
   refine Nz ?_
   refine Tz hd ?_
   refine cw (kK a b J J) ?_
   refine Bz (cn (gcd a b)) ?_
   refine Uz hd2 ?_
   have c1:=jR a (gcd a b) hg0 J J
   rw[<-m1] at c1
   refine Bz c1 ?_
   have c2:=jR b (gcd a b) hg0 J J
   rw[<-m2] at c2
   refine Bz c2 ?_
   try simp (maxSteps:=9^9) only[go_sem,hA,hB]
attribute [go_sem] Option.isSome_none AB
theorem gy:Fn prog 95 [⟨au,((false,[]),[])⟩] false [⟨.bool,false⟩]:=h9 none
theorem bM (q:Rat):Fn prog 95 [⟨au,fo q⟩] false [⟨.bool,true⟩]:=h9 (some q)
theorem bR (x y:Option Rat) (hx:aY x) (hy:aY y):Fn prog 80 [⟨au,oD x⟩,⟨au,oD y⟩] false [⟨.int,bG x y⟩]:=by
 cases x with
 | none =>
  refine fe func80 ntmps80 results80 fun hwf=>?_
  refine Bz gy ?_
  rfl
 | some p =>
  cases y with
  | none =>
   refine fe func80 ntmps80 results80 fun hwf=>?_
   refine Cz (bM p) ?_
   refine cw gy ?_
   refine Nz ?_
   rfl
  | some q =>
   obtain⟨p1,p2⟩:=hx p rfl
   obtain⟨q1,q2⟩:=hy q rfl
   refine fe func80 ntmps80 results80 fun hwf=>?_
   refine Cz (bM p) ?_
   refine cw (bM q) ?_
   refine Cz (nT p.num q.den J J) ?_
   refine cw (nT q.num p.den J J) ?_
   refine Cz (SL (p.num * q.den) (q.num * p.den)) ?_
   exact (Na p q).symm
theorem yM (a:Int) (n:Nat):nl (a * (n:Int)).natAbs<=nl a.natAbs+nl n:=by
 rw[Int.natAbs_mul,Int.natAbs_natCast]; exact pF _ _
theorem D7 (a b:Int):nl (a+b).natAbs<=max (nl a.natAbs) (nl b.natAbs)+1:=le_trans (iM (Int.natAbs_add_le a b)) (CV _ _)
theorem L1 (a b:Int):nl (a * b).natAbs<=nl a.natAbs+nl b.natAbs:=by
 rw[Int.natAbs_mul]; exact pF _ _
theorem ve (p q:Rat):p.den * q.den ≠ 0:=Nat.mul_ne_zero p.den_nz q.den_nz
theorem er (x y:Option Rat) (hx:aY x) (hy:aY y):Fn prog 82 [⟨au,oD x⟩,⟨au,oD y⟩] true [⟨au,oD (bX x y)⟩]:=by
 cases x with
 | none =>
  refine fe func82 ntmps82 results82 fun hwf=>?_
  refine Bz gy ?_
  try simp (maxSteps:=9^9) only[go_sem,bX]
 | some p =>
  cases y with
  | none =>
   refine fe func82 ntmps82 results82 fun hwf=>?_
   refine Cz (bM p) ?_
   refine cw gy ?_
   refine Nz ?_
   try simp (maxSteps:=9^9) only[go_sem,bX]
  | some q =>
   obtain⟨p1,p2⟩:=hx p rfl
   obtain⟨q1,q2⟩:=hy q rfl
   have b1:=yM p.num q.den
   have b2:=yM q.num p.den
   have b3:=D7 (p.num * q.den) (q.num * p.den)
   have b4:=pF p.den q.den
   have hm:=pg (p.num * q.den+q.num * p.den) (p.den * q.den) (ve p q) J J
   rw[<-Jn] at hm
   have e:bX (some p) (some q)=fZ (p+q):=rfl
   rw[e]
   refine fe func82 ntmps82 results82 fun hwf=>?_
   refine Cz (bM p) ?_
   refine cw (bM q) ?_
   refine Cz (nT p.num q.den J J) ?_
   refine cw (nT q.num p.den J J) ?_
   refine Cz (S3 (p.num * q.den) (q.num * p.den) J J) ?_
   refine cw (mM p.den q.den J J) ?_
   refine Sz ?_
   refine cw hm ?_
   all_goals exact Fz
theorem FR (x:Option Rat):Fn prog 169 [⟨au,oD x⟩] false [⟨au,oD (wS x)⟩]:=by
 cases x with
 | none =>
  have hb:=Fx 0
  rw[Int.neg_zero,QD] at hb
  refine fe func169 ntmps169 results169 fun hwf=>?_
  refine Bz hb ?_
  try simp (maxSteps:=9^9) only[go_sem,wS]
  all_goals exact Ez
 | some p =>
  refine fe func169 ntmps169 results169 fun hwf=>?_
  refine Bz (Fx p.num) ?_
  try simp (maxSteps:=9^9) only[go_sem,wS,Rat.neg_num,Rat.neg_den]
  all_goals exact Ez
theorem cZ (x y:Option Rat) (hx:aY x) (hy:aY y):Fn prog 94 [⟨au,oD x⟩,⟨au,oD y⟩] true [⟨au,oD (bo x y)⟩]:=by
 show Fn _ _ _ _ [⟨au,oD (bX x (wS y))⟩]
 have h1:=FR y
 have h2:=er x (wS y) hx (NF hy)
 refine fe func94 ntmps94 results94 fun hwf=>?_
 refine Cz h1 ?_
 refine cw h2 ?_
 all_goals exact Fz
theorem Ql (p:Rat):eI p 0=lN p.num 0:=by
 rw[Na]
 simp
theorem qB (x:Option Rat):Fn prog 89 [⟨au,oD x⟩] false [⟨.int,pV x⟩]:=by
 cases x with
 | none =>
  refine fe func89 ntmps89 results89 fun hwf=>?_
  refine Bz gy ?_
  try simp (maxSteps:=9^9) only[go_sem,pV]
 | some p =>
  have e:pV (some p)=lN p.num 0:=Ql p
  rw[e]
  by_cases h0:(nl p.num.natAbs:Int)=0
  ·have:p.num=0:=by have:=dz.1 (show nl p.num.natAbs=0 from J); omega
   refine fe func89 ntmps89 results89 fun hwf=>?_
   refine Bz (bM p) ?_
   refine Uz h0 ?_
   simp[lN,this]
  ·have h1:p.num ≠ 0:=fun h=>h0 (by rw[h]; simp[jK])
   by_cases h2:p.num < 0
   ·refine fe func89 ntmps89 results89 fun hwf=>?_
    refine Bz (bM p) ?_
    refine tW h0 h2 ?_
    simp[lN,h2]
   ·have h3:0 < p.num:=J
    refine fe func89 ntmps89 results89 fun hwf=>?_
    refine Bz (bM p) ?_
    refine tW h0 h2 ?_
    simp[lN,h2,h3]
def iN:Option Rat->Option Rat->Option Rat
 | some p,some q=>if 0<=eI p q then some p else some q
 | _,_=>none
def bP:Option Rat->Option Rat->Option Rat
 | some p,some q=>if eI p q<=0 then some p else some q
 | _,_=>none
theorem qW {x y:Option Rat} (hx:aY x) (hy:aY y):aY (iN x y):=by
 unfold iN
 split
 ·split
  ·exact hx
  ·exact hy
 ·exact eu
theorem lp {x y:Option Rat} (hx:aY x) (hy:aY y):aY (bP x y):=by
 unfold bP
 split
 ·split
  ·exact hx
  ·exact hy
 ·exact eu
theorem pH (x y:Option Rat) (hx:aY x) (hy:aY y):Fn prog 155 [⟨au,oD x⟩,⟨au,oD y⟩] false [⟨au,oD (iN x y)⟩]:=by
 cases x with
 | none =>
  refine fe func155 ntmps155 results155 fun hwf=>?_
  refine Bz gy ?_
  try simp (maxSteps:=9^9) only[go_sem,iN]
 | some p =>
  cases y with
  | none =>
   refine fe func155 ntmps155 results155 fun hwf=>?_
   refine Cz (bM p) ?_
   refine cw gy ?_
   refine Nz ?_
   try simp (maxSteps:=9^9) only[go_sem,iN]
  | some q =>
   have hc:=bR (some p) (some q) hx hy
   have e:bG (some p) (some q)=eI p q:=rfl
   rw[e] at hc
   by_cases h:0<=eI p q
   ·have e2:iN (some p) (some q)=some p:=if_pos h
    rw[e2]
    refine fe func155 ntmps155 results155 fun hwf=>?_
    refine Cz (bM p) ?_
    refine cw (bM q) ?_
    refine Bz hc ?_
    try simp (maxSteps:=9^9) only[go_sem,h]
   ·have e2:iN (some p) (some q)=some q:=if_neg h
    rw[e2]
    refine fe func155 ntmps155 results155 fun hwf=>?_
    refine Cz (bM p) ?_
    refine cw (bM q) ?_
    refine Bz hc ?_
    try simp (maxSteps:=9^9) only[go_sem,h]
theorem nc (r:DR) (h1:r.1.2.length<=16777216) (h2:r.2.length<=16777216):Fn prog 84 [⟨au,r⟩] true [⟨au,r⟩]:=by
 obtain⟨⟨s,a⟩,d⟩:=r
 refine fe func84 ntmps84 results84 fun hwf=>?_
 refine Cz (jU a h1) ?_
 refine cw (jU d h2) ?_
 all_goals exact Fz
theorem oK (x:Option Rat) (hx:aY x):Fn prog 84 [⟨au,oD x⟩] true [⟨au,oD x⟩]:=by
 refine nc _ ?_ ?_
 ·cases x with
  | none=>exact zero_le _
  | some q=>have:=(hx q rfl).1; show nl q.num.natAbs<=_; omega
 ·cases x with
  | none=>exact zero_le _
  | some q=>have:=(hx q rfl).2; show nl q.den<=_; omega
theorem vt (x:Int) (n:Nat):eV (decide (x < 0)) (x.natAbs * n)=x * n:=by
 unfold eV
 by_cases h:x < 0
 ·simp only[h,decide_true,if_true,natCast_mul]
  rw[show (x.natAbs:Int)=-x from J,Int.neg_mul,Int.neg_neg]
 ·simp only[h,decide_false,false_eq_true,if_false,natCast_mul]
  rw[show (x.natAbs:Int)=x from J]
theorem SZ:aB 1=[1]:=JD ae ae
theorem P3 (p q:Rat) (hp:small p) (hq:small q):Fn prog 268 [⟨au,fo p⟩,⟨au,fo q⟩] true [⟨au,oD (fZ (p+q))⟩]:=by
 obtain⟨p1,p2⟩:=hp
 obtain⟨q1,q2⟩:=hq
 have b1:=yM p.num q.den
 have b2:=yM q.num p.den
 have b3:=D7 (p.num * q.den) (q.num * p.den)
 have b4:=pF p.den q.den
 have b5:=pF p.num.natAbs q.den
 have b6:=pF q.num.natAbs p.den
 have b7:=D7 p.num q.num
 have hl:=xP (decide (p.num * q.den+q.num * p.den < 0)) (p.num * q.den+q.num * p.den).natAbs (p.den * q.den) (ve p q) J J
 rw[rz,<-Jn] at hl
 by_cases h1:p.den=1
 ·by_cases h2:q.den=1
  ·have hl1:=xP (decide (p.num+q.num < 0)) (p.num+q.num).natAbs 1 ae J (by have:=db (n:=1) ae; omega)
   have e:_root_.mkRat (p.num+q.num) 1=p+q:=by rw[Jn,h1,h2]; simp
   rw[rz,SZ,e] at hl1
   have d1:decide (p.den=1)=true:=aj h1
   have d2:decide (q.den=1)=true:=aj h2
   refine fe func268 ntmps268 results268 fun hwf=>?_
   refine Bz (cn p.den) ?_
   refine Tz d1 ?_
   refine cw (cn q.den) ?_
   refine Nz ?_
   refine Tz d2 ?_
   refine cw (xe p.num q.num J J) ?_
   refine Sz ?_
   refine cw hl1 ?_
   all_goals exact Fz
  ·have d1:decide (p.den=1)=true:=aj h1
   have d2:decide (q.den=1)=false:=ak h2
   refine fe func268 ntmps268 results268 fun hwf=>?_
   refine Bz (cn p.den) ?_
   refine Tz d1 ?_
   refine cw (cn q.den) ?_
   refine Nz ?_
   refine Tz d2 ?_
   refine cw (jS p.num.natAbs q.den J J) ?_
   refine Cz (fO (vt p.num q.den) J) ?_
   refine cw (jS q.num.natAbs p.den J J) ?_
   refine Cz (fO (vt q.num p.den) J) ?_
   refine cw (xe (p.num * q.den) (q.num * p.den) J J) ?_
   refine Cz (jS p.den q.den J J) ?_
   refine cw hl ?_
   all_goals exact Fz
 ·have d1:decide (p.den=1)=false:=ak h1
  refine fe func268 ntmps268 results268 fun hwf=>?_
  refine Bz (cn p.den) ?_
  refine Tz d1 ?_
  refine cw (jS p.num.natAbs q.den J J) ?_
  refine Cz (fO (vt p.num q.den) J) ?_
  refine cw (jS q.num.natAbs p.den J J) ?_
  refine Cz (fO (vt q.num p.den) J) ?_
  refine cw (xe (p.num * q.den) (q.num * p.den) J J) ?_
  refine Cz (jS p.den q.den J J) ?_
  refine cw hl ?_
  all_goals exact Fz
theorem A7 (F:FuncId) (p:DR->Bool) (hF:∀x:DR,Fn prog F [⟨au,x⟩] false [⟨.bool,p x⟩]) (l:List DR):Fn prog 238 [⟨.slice au,l⟩,⟨.dr (.fn F),()⟩] false [⟨.int,jL (t:=au) p l⟩]:=by
 refine fe func238 ntmps238 results238 fun hwf=>?_
 have hl:l.length<=9223372036854775807:=(hwf ⟨.slice au,l⟩ ah).1
 refine Nz ?_
 refine aF.intro _ _ _ (fun i:Nat=>⟨[(0,.sl au l),(1,.sc (.func (.func F) #[] #[])),(7,.sc (.int .i64 l.length)),(8,.sc (.int .i64 i))],[]⟩) (fun i=>∀j < i,j < l.length->p (nth (t:=au) l j)=false) (fun i=>l.length - i) 0 ?_ (fun j h=>by simp at h) ?_
 ·exact WK
 ·rintro i h2
  refine Nz ?_
  refine ao ?_ ?_<;>intro h3
  ·refine Bz (hF (nth (t:=au) l i)) ?_
   refine ig (fun h4=>?_) (fun h4=>?_)
   ·refine Nz ?_
    exact (jy J h4 (fun j hj=>h2 j hj J)).symm
   ·refine Sz ?_
    refine az.mk (i+1) ?_ (fun j hj hl=>?_) J
    ·exact WK
    ·by_cases hj2:j < i
     ·exact h2 j hj2 hl
     ·rw[show j=i from J]; exact h4
  ·refine Nz ?_
   exact (fP fun j hj=>h2 j J hj).symm
theorem nX (F:FuncId) (p:DR->Bool) (hF:∀x:DR,Fn prog F [⟨au,x⟩] false [⟨.bool,p x⟩]) (l:List DR):Fn prog 160 [⟨.slice au,l⟩,⟨.dr (.fn F),()⟩] false [⟨.bool,l.any p⟩]:=by
 refine fe func160 ntmps160 results160 fun hwf=>?_
 refine Bz (A7 F p hF l) ?_
 exact lq
theorem K9 (r:DR):Fn prog 167 [⟨au,r⟩] false [⟨.bool,!br r⟩]:=by
 refine fe func167 ntmps167 results167 fun hwf=>?_
 refine Sz ?_
 refine cw (kI r) ?_
 try simp (maxSteps:=9^9) only[go_sem]
theorem v8 (l:List DR):Fn prog 91 [⟨.slice au,l⟩] false [⟨.bool,!(l.any fun r=>!br r)⟩]:=by
 refine fe func91 ntmps91 results91 fun hwf=>?_
 refine Sz ?_
 refine cw (nX _ _ K9 l) ?_
 try simp (maxSteps:=9^9) only[go_sem]
theorem bg {r:DR} (h:br r=true):oD (aw r)=r:=by
 obtain⟨q,_,e1,e2⟩:=qD h
 rw[e2,e1]; rfl
attribute [go_sem] Prod.eta
abbrev DP:Type:=DR × DR
def bj (p:DP):Bool:=br p.1 && br p.2
theorem wI (p:DP):Fn prog 130 [⟨ax,p⟩] false [⟨.bool,bj p⟩]:=by
 cases h:br p.1
 ·refine fe func130 ntmps130 results130 fun hwf=>?_
  refine Bz (kI p.1) ?_
  refine Tz h ?_
  simp[bj,h]
 ·refine fe func130 ntmps130 results130 fun hwf=>?_
  refine Bz (kI p.1) ?_
  refine Tz h ?_
  refine cw (kI p.2) ?_
  refine Sz ?_
  simp[bj,h]
theorem C0 (F:FuncId) (p:DP->Bool) (hF:∀x:DP,Fn prog F [⟨ax,x⟩] false [⟨.bool,p x⟩]) (l:List DP):Fn prog 203 [⟨.slice ax,l⟩,⟨.dr (.fn F),()⟩] false [⟨.int,jL (t:=ax) p l⟩]:=by
 refine fe func203 ntmps203 results203 fun hwf=>?_
 have hl:l.length<=9223372036854775807:=(hwf ⟨.slice ax,l⟩ ah).1
 refine Nz ?_
 refine aF.intro _ _ _ (fun i:Nat=>⟨[(0,.sl ax l),(1,.sc (.func (.func F) #[] #[])),(7,.sc (.int .i64 l.length)),(8,.sc (.int .i64 i))],[]⟩) (fun i=>∀j < i,j < l.length->p (nth (t:=ax) l j)=false) (fun i=>l.length - i) 0 ?_ (fun j h=>by simp at h) ?_
 ·exact WK
 ·rintro i h2
  refine Nz ?_
  refine ao ?_ ?_<;>intro h3
  ·refine Bz (hF (nth (t:=ax) l i)) ?_
   refine ig (fun h4=>?_) (fun h4=>?_)
   ·refine Nz ?_
    exact (jy J h4 (fun j hj=>h2 j hj J)).symm
   ·refine Sz ?_
    refine az.mk (i+1) ?_ (fun j hj hl=>?_) J
    ·exact WK
    ·by_cases hj2:j < i
     ·exact h2 j hj2 hl
     ·rw[show j=i from J]; exact h4
  ·refine Nz ?_
   exact (fP fun j hj=>h2 j J hj).symm
theorem yt (F:FuncId) (p:DP->Bool) (hF:∀x:DP,Fn prog F [⟨ax,x⟩] false [⟨.bool,p x⟩]) (l:List DP):Fn prog 128 [⟨.slice ax,l⟩,⟨.dr (.fn F),()⟩] false [⟨.bool,l.any p⟩]:=by
 refine fe func128 ntmps128 results128 fun hwf=>?_
 refine Bz (C0 F p hF l) ?_
 exact lq
theorem Gt (p:DP):Fn prog 129 [⟨ax,p⟩] false [⟨.bool,!bj p⟩]:=by
 refine fe func129 ntmps129 results129 fun hwf=>?_
 refine Sz ?_
 refine cw (wI p) ?_
 try simp (maxSteps:=9^9) only[go_sem]
theorem wN (l:List DP):Fn prog 52 [⟨.slice ax,l⟩] false [⟨.bool,!(l.any fun p=>!bj p)⟩]:=by
 refine fe func52 ntmps52 results52 fun hwf=>?_
 refine Sz ?_
 refine cw (yt _ _ Gt l) ?_
 try simp (maxSteps:=9^9) only[go_sem]
theorem wB (p q:DP):Fn prog 52 [⟨.slice ax,[p,q]⟩] false [⟨.bool,bj p && bj q⟩]:=by
 have h:=wN [p,q]
 have e:(!([p,q].any fun p=>!bj p))=(bj p && bj q):=by simp
 rw[e] at h; exact h
theorem pW (p:DP):Fn prog 52 [⟨.slice ax,[p]⟩] false [⟨.bool,bj p⟩]:=by
 have h:=wN [p]
 have e:(!([p].any fun p=>!bj p))=bj p:=by simp
 rw[e] at h; exact h
def iF (x:Option Rat):Option Rat:=if pV x < 0 then wS x else x
theorem rq {x:Option Rat} (h:aY x):aY (iF x):=by
 unfold iF; split
 ·exact NF h
 ·exact h
theorem qy:iF none=none:=by unfold iF; split<;>rfl
theorem DJ (x:Option Rat):Fn prog 93 [⟨au,oD x⟩] false [⟨au,oD (iF x)⟩]:=by
 have h1:=qB x
 have h2:=FR x
 unfold iF
 by_cases h:pV x < 0
 ·rw[if_pos h]
  refine fe func93 ntmps93 results93 fun hwf=>?_
  refine Bz h1 ?_
  refine Tz h ?_
  refine cw h2 ?_
  all_goals exact Fz
 ·rw[if_neg h]
  refine fe func93 ntmps93 results93 fun hwf=>?_
  refine Bz h1 ?_
  exact Gz h
theorem zF (y:Option Rat):bo none y=none:=rfl
theorem zR (x:Option Rat):bo x none=none:=by cases x<;>rfl
theorem Ma (y:Option Rat):iN none y=none:=rfl
theorem NG (x:Option Rat):iN x none=none:=by cases x<;>rfl
def wz (p q:DP):Option Rat:=iN (iF (bo (aw q.1) (aw p.1))) (iF (bo (aw q.2) (aw p.2)))
theorem Rq (p q:DP):aY (wz p q):=qW (rq (dJ _ _)) (rq (dJ _ _))
theorem YS {p q:DP} (h:(bj p && bj q)=false):wz p q=none:=by
 unfold wz
 have hb:aw p.1=none\/aw p.2=none\/aw q.1=none\/aw q.2=none:=by
  simp only[bj,Bool.and_eq_false_iff] at h
  rcases h with (h|h)|(h|h)
  ·exact .inl (zg h)
  ·exact .inr (.inl (zg h))
  ·exact .inr (.inr (.inl (zg h)))
  ·exact .inr (.inr (.inr (zg h)))
 rcases hb with h|h|h|h<;>rw[h]
 ·rw[zR,qy,Ma]
 ·rw[zR,qy,NG]
 ·rw[zF,qy,Ma]
 ·rw[zF,qy,NG]
theorem wc (p q:DP):Fn prog 83 [⟨ax,p⟩,⟨ax,q⟩] false [⟨au,oD (wz p q)⟩]:=by
 cases hb:bj p && bj q
 ·rw[YS hb]
  refine fe func83 ntmps83 results83 fun hwf=>?_
  refine Bz (wB p q) ?_
  try simp (maxSteps:=9^9) only[go_sem,hb]
 ·have hb':=hb
  simp only[bj,Bool.and_eq_true] at hb'
  obtain⟨⟨p1,p2⟩,⟨q1,q2⟩⟩:=hb'
  have c1:=cZ (aw q.1) (aw p.1) (aI _) (aI _)
  have c2:=cZ (aw q.2) (aw p.2) (aI _) (aI _)
  rw[bg q1,bg p1] at c1
  rw[bg q2,bg p2] at c2
  have c3:=DJ (bo (aw q.1) (aw p.1))
  have c4:=DJ (bo (aw q.2) (aw p.2))
  have c5:=pH (iF (bo (aw q.1) (aw p.1))) (iF (bo (aw q.2) (aw p.2))) (rq (dJ _ _)) (rq (dJ _ _))
  unfold wz
  refine fe func83 ntmps83 results83 fun hwf=>?_
  refine Bz (wB p q) ?_
  refine Tz hb ?_
  refine cw c1 ?_
  refine Cz c3 ?_
  refine cw c2 ?_
  refine Cz c4 ?_
  refine cw c5 ?_
  all_goals exact Fz
abbrev DS:Type:=Int × DP
theorem kP (n:Int):Fn prog 117 [⟨.int,n⟩] false [⟨.bool,decide (0<=n/\n<=3)⟩]:=by
 refine fe func117 ntmps117 results117 fun hwf=>?_
 refine Sz ?_
 refine cw (dH n 0 3) ?_
 try simp (maxSteps:=9^9) only[go_sem]
theorem K1:aB 9223372036854775808=[854775808,223372036,9]:=by
 rw[gu ae,gu ae,gu ae,dx]; rfl
theorem AE (n:Int):Fn prog 151 [⟨.int,n⟩] true [⟨dM,bE n⟩]:=by
 by_cases h0:0<=n
 ·have hn:¬ n < 0:=J
  have e:n.natAbs=n.toNat:=J
  refine fe func151 ntmps151 results151 fun hwf=>?_
  refine fy h0 hn ?_
  refine cw (iP n) ?_
  refine Nz ?_
  rw[e]
  all_goals exact Ez
 ·by_cases h1:n=-9223372036854775808
  ·subst h1
   have e:aB 9223372036854775807=aB (9223372036854775807:Int).toNat:=rfl
   have ha:=FQ (9223372036854775807:Int).toNat (1:Int).toNat (le_trans (mU (n:=9223372036854775807) ae) ae) (le_trans (db ae) ae)
   refine fe func151 ntmps151 results151 fun hwf=>?_
   refine Cz (iP 9223372036854775807) ?_
   refine cw (iP 1) ?_
   refine Sz ?_
   refine cw ha ?_
   all_goals exact Fz
  ·have hn:n < 0:=J
   have e:n.natAbs=(-n).toNat:=J
   refine fe func151 ntmps151 results151 fun hwf=>?_
   have hI:bU n:=hwf ⟨.int,n⟩ ah
   have hI1:=hI.1
   have hI2:=hI.2
   refine fy h0 h1 ?_
   refine cw (iP (-n)) ?_
   refine Nz ?_
   rw[e]
   simp[hn]
theorem tC (n:Int):Fn prog 270 [⟨.int,n⟩] true [⟨dM,bE n⟩]:=by
 by_cases h1:n=-9223372036854775808
 ·subst h1
  have hm:=fO (s:=true) (n:=9223372036854775808) (z:=-9223372036854775808) rfl (le_trans (mU (n:=9223372036854775808) ae) ae)
  rw[K1] at hm
  refine fe func270 ntmps270 results270 fun hwf=>?_
  refine Sz ?_
  refine cw hm ?_
  all_goals exact Fz
 ·refine fe func270 ntmps270 results270 fun hwf=>?_
  have hI:bU n:=hwf ⟨.int,n⟩ ah
  have hI1:=hI.1
  have hI2:=hI.2
  refine Nz ?_
  refine ao (fun h=>absurd h h1) (fun _=>?_)
  refine Nz ?_
  refine ao (fun hn=>?_) (fun hn=>?_)
  ·have hm:=fO (s:=true) (n:=(-n).toNat) (z:=n) (by unfold eV; simp; omega) (le_trans (mU (n:=-n) J) ae)
   refine Cz (jG (-n)) ?_
   refine cw hm ?_
   all_goals exact Fz
  ·have hm:=fO (s:=false) (n:=n.toNat) (z:=n) (by unfold eV; simp; omega) (le_trans (mU (n:=n) J) ae)
   refine Cz (jG n) ?_
   refine cw hm ?_
   all_goals exact Fz
def fE (n:Int):DR:=(bE n,[1])
theorem ij (n:Int):fE n=fo (n:Rat):=by
 rw[fE,fo,Rat.num_intCast,Rat.den_intCast,SZ]
attribute [go_sem] fE
theorem dP (n:Int):Fn prog 81 [⟨.int,n⟩] true [⟨au,fE n⟩]:=by
 refine fe func81 ntmps81 results81 fun hwf=>?_
 refine Sz ?_
 refine cw (AE n) ?_
 all_goals exact Fz
theorem wm (n:Int):Fn prog 266 [⟨.int,n⟩] true [⟨au,fE n⟩]:=by
 refine fe func266 ntmps266 results266 fun hwf=>?_
 refine Sz ?_
 refine cw (tC n) ?_
 all_goals exact Fz
theorem vY (n:Int):Fn prog 90 [⟨.int,n⟩] false [⟨.bool,decide (1<=n/\n<=1000)⟩]:=by
 refine fe func90 ntmps90 results90 fun hwf=>?_
 refine Sz ?_
 refine cw (dH n 1 1000) ?_
 try simp (maxSteps:=9^9) only[go_sem]
theorem sT (n:Int):Fn prog 157 [⟨.int,n⟩] false [⟨.bool,!decide (1<=n/\n<=1000)⟩]:=by
 refine fe func157 ntmps157 results157 fun hwf=>?_
 refine Sz ?_
 refine cw (vY n) ?_
 try simp (maxSteps:=9^9) only[go_sem]
def b9 (n:Int) (l:List Int) (i:Nat):Int:=if 0 < (i:Int)/\(i:Int) < n - 1 then min (ni l ((i:Int) - 1).toNat) (ni l i) else 0
def gU (n:Int) (l:List Int) (k:Nat):List DR:=(List.range k).map fun i=>fE (b9 n l i * b9 n l i)
def kD (n:Int) (l:List Int):Prop:=1<=n/\(l.length:Int)=n - 1/\∀x ∈ l,1<=x/\x<=1000
def spd (n:Int) (l:List Int):List DR:=@ite _ (kD n l) (Classical.propDecidable _) (gU n l n.toNat) []
theorem V3 {n:Int} {l:List Int} (h:kD n l):spd n l=gU n l n.toNat:=if_pos h
theorem Pt {n:Int} {l:List Int} (h:¬ kD n l):spd n l=[]:=if_neg h
theorem nk (n:Int) (l:List Int) (k:Nat):gU n l (k+1)=gU n l k++[fE (b9 n l k * b9 n l k)]:=by
 simp[gU,List.range_succ]
theorem ix (n:Int) (l:List Int) (k:Nat):(gU n l k).length=k:=by simp[gU]
theorem zp {n:Int} {l:List Int} (h:kD n l) (i:Nat):0<=b9 n l i/\b9 n l i<=1000:=by
 unfold b9
 split
 ·rename_i hc
  have h1:((i:Int) - 1).toNat < l.length:=by have:=h.2.1; omega
  have h2:i < l.length:=by have:=h.2.1; omega
  have e1:=h.2.2 _ (getElem_mem h1)
  have e2:=h.2.2 _ (getElem_mem h2)
  rw[cd h1,cd h2]
  omega
 ·omega
theorem G4 {k:Int} (h:0<=k/\k<=1000):0<=k * k/\k * k<=1000000 :=
 ⟨mul_nonneg h.1 h.1,by have:=Int.mul_le_mul h.2 h.2 h.1 (by decide:(0:Int)<=1000); omega⟩
theorem xV (n:Int) (l:List Int) (hl:l.length<=1000000000):Fn prog 85 [⟨.int,n⟩,⟨aq,l⟩] true [⟨.slice au,spd n l⟩]:=by
 by_cases h1:n < 1
 ·rw[Pt fun h=>by have:=h.1; omega]
  refine fe func85 ntmps85 results85 fun hwf=>?_
  try simp (maxSteps:=9^9) only[go_sem,h1]
 by_cases h2:(l.length:Int)=n - 1
 rotate_left
 ·rw[Pt fun h=>h2 h.2.1]
  refine fe func85 ntmps85 results85 fun hwf=>?_
  have hI:bU n:=hwf ⟨.int,n⟩ ah
  have hI2:=hI.2
  exact CW h1 h2
 have hi:bU (n - 1):=by constructor<;>omega
 cases h3:l.any (fun x=>!decide (1<=x/\x<=1000))
 rotate_left
 ·rw[Pt fun h=>by
   obtain⟨x,hx,hb⟩:=any_eq_true.1 h3
   have:=h.2.2 x hx
   simp[this.1,this.2] at hb]
  refine fe func85 ntmps85 results85 fun hwf=>?_
  refine fy h1 h2 ?_
  refine cw (gm _ _ sT l) ?_
  refine Nz ?_
  try simp (maxSteps:=9^9) only[go_sem,h3]
 have hok:kD n l:=⟨J,h2,fun x hx=>by
  rw[any_eq_false] at h3
  have:=h3 x hx
  simpa using this⟩
 rw[V3 hok]
 refine fe func85 ntmps85 results85 fun hwf=>?_
 refine fy h1 h2 ?_
 refine cw (gm _ _ sT l) ?_
 refine Nz ?_
 refine Uz h3 ?_
 refine aF.intro _ _ _ (fun i:Nat=>⟨[(0,.sc (.int .i64 n)),(1,.sl .int l),(5,.row 0 0),(22,.sc (.int .i64 n)),(23,.sc (.int .i64 i))],[(0,.row 40 au 0 true (gU n l i))]⟩) (fun i=>(i:Int)<=n) (fun i=>(n - i).toNat) 0 ?_ J ?_
 ·refine Wk.mk [] ?_
  refine Nz ?_
  try (and_intros<;>first|rfl|omega|exact⟨_,rfl⟩)
  all_goals (exact⟨rfl,rfl⟩)
 ·intro i hin
  have hk:=zp hok i
  have hsq:=G4 hk
  refine Nz ?_
  refine ao ?_ ?_<;>intro hA
  ·have hpath:(0 < (i:Int)/\(i:Int) < n - 1/\b9 n l i=min (ni l ((i:Int) - 1).toNat) (ni l i))\/(¬ 0 < (i:Int)/\b9 n l i=0)\/(0 < (i:Int)/\¬ (i:Int) < n - 1/\b9 n l i=0):=by
    unfold b9
    by_cases g1:0 < (i:Int)
    ·by_cases g2:(i:Int) < n - 1
     ·exact .inl ⟨g1,g2,if_pos ⟨g1,g2⟩⟩
     ·exact .inr (.inr ⟨g1,g2,if_neg fun h=>g2 h.2⟩)
    ·exact .inr (.inl ⟨g1,if_neg fun h=>g1 h.1⟩)
   rcases hpath with ⟨hB,hC,hlim⟩|⟨hB,hlim⟩|⟨hB,hC,hlim⟩
   ·refine Tz hA ?_
    refine fy hB hC ?_
    rw[<-hlim]
    refine Bz (dP (b9 n l i * b9 n l i)) ?_
    try simp (maxSteps:=9^9) only[go_sem,ix]
    repeat refine AI ?_
    refine az.mk (i+1) ?_ J J
    refine Wk.mk [] ?_
    refine Nz ?_
    try (and_intros<;>first|rfl|omega|exact⟨_,rfl⟩)
    all_goals (rw[nk]; exact⟨J,rfl⟩)
   ·refine Tz hA ?_
    refine Tz hB ?_
    refine cw (dP (0 * 0)) ?_
    refine Nz ?_
    try simp (maxSteps:=9^9) only[go_sem,ix]
    repeat refine AI ?_
    refine az.mk (i+1) ?_ J J
    refine Wk.mk [] ?_
    refine Nz ?_
    try (and_intros<;>first|rfl|omega|exact⟨_,rfl⟩)
    all_goals (rw[nk,hlim]; exact⟨J,rfl⟩)
   ·refine Tz hA ?_
    refine fy hB hC ?_
    refine cw (dP (0 * 0)) ?_
    refine Nz ?_
    try simp (maxSteps:=9^9) only[go_sem,ix]
    repeat refine AI ?_
    refine az.mk (i+1) ?_ J J
    refine Wk.mk [] ?_
    refine Nz ?_
    try (and_intros<;>first|rfl|omega|exact⟨_,rfl⟩)
    all_goals (rw[nk,hlim]; exact⟨J,rfl⟩)
  ·refine Nz ?_
   rw[show n.toNat=i from J]
end DW

section
open Go.RowKit
end

namespace DW
open Go.RowKit
theorem DX {r:DR} (h:br r=true):r.1.2.length<=24/\r.2.length<=24:=by
 obtain⟨p,hp,rfl,_⟩:=qD h
 exact hp
theorem Lm (y:Option Rat):bX none y=none:=rfl
theorem zJ (x:Option Rat):bX x none=none:=by cases x<;>rfl
theorem Gs (r s:DR):Fn prog 201 [⟨au,r⟩,⟨au,s⟩] true [⟨au,oD (bX (aw r) (aw s))⟩]:=by
 cases hr:br r
 ·rw[zg hr,Lm]
  refine fe func201 ntmps201 results201 fun hwf=>?_
  refine Bz (k8 r) ?_
  try simp (maxSteps:=9^9) only[go_sem,hr]
 ·cases hs:br s
  ·rw[zg hs,zJ]
   refine fe func201 ntmps201 results201 fun hwf=>?_
   refine Bz (k8 r) ?_
   refine Tz hr ?_
   refine cw (k8 s) ?_
   refine Nz ?_
   try simp (maxSteps:=9^9) only[go_sem,hs]
  ·obtain⟨p,hp,rfl,e1⟩:=qD hr
   obtain⟨q,hq,rfl,e2⟩:=qD hs
   rw[e1,e2]
   have hr':br ((decide (p.num < 0),aB p.num.natAbs),aB p.den)=true:=hr
   have hs':br ((decide (q.num < 0),aB q.num.natAbs),aB q.den)=true:=hs
   have e:bX (some p) (some q)=fZ (p+q):=rfl
   rw[e]
   refine fe func201 ntmps201 results201 fun hwf=>?_
   refine Bz (k8 (fo p)) ?_
   refine Tz hr' ?_
   refine cw (k8 (fo q)) ?_
   refine Nz ?_
   refine Tz hs' ?_
   refine cw (P3 p q hp hq) ?_
   all_goals exact Fz
theorem WC:aY (some ((0:Int):Rat)):=by
 intro q hq; injection hq with hq; subst hq; exact⟨le_trans (db (n:=0) ae) ae,le_trans (db (n:=1) ae) ae⟩
theorem Qy:fE 0=oD (some ((0:Int):Rat)):=ij 0
end DW

namespace DW
open Go.RowKit
theorem fA (x y:Option Rat) (hx:aY x) (hy:aY y):Fn prog 168 [⟨au,oD x⟩,⟨au,oD y⟩] true [⟨au,oD (eT x y)⟩]:=by
 cases x with
 | none =>
  refine fe func168 ntmps168 results168 fun hwf=>?_
  refine Bz gy ?_
  try simp (maxSteps:=9^9) only[go_sem,eT]
 | some p =>
  cases y with
  | none =>
   refine fe func168 ntmps168 results168 fun hwf=>?_
   refine Cz (bM p) ?_
   refine cw gy ?_
   refine Nz ?_
   try simp (maxSteps:=9^9) only[go_sem,eT]
  | some q =>
   obtain⟨p1,p2⟩:=hx p rfl
   obtain⟨q1,q2⟩:=hy q rfl
   have b1:=L1 p.num q.num
   have b4:=pF p.den q.den
   have hm:=pg (p.num * q.num) (p.den * q.den) (ve p q) J J
   rw[<-aaQ] at hm
   have e:eT (some p) (some q)=fZ (p * q):=rfl
   rw[e]
   refine fe func168 ntmps168 results168 fun hwf=>?_
   refine Cz (bM p) ?_
   refine cw (bM q) ?_
   refine Cz (E1 p.num q.num J J) ?_
   refine cw (mM p.den q.den J J) ?_
   refine Sz ?_
   refine cw hm ?_
   all_goals exact Fz
theorem kQ (x y:Option Rat) (hx:aY x) (hy:aY y):Fn prog 159 [⟨au,oD x⟩,⟨au,oD y⟩] false [⟨au,oD (bP x y)⟩]:=by
 cases x with
 | none =>
  refine fe func159 ntmps159 results159 fun hwf=>?_
  refine Bz gy ?_
  try simp (maxSteps:=9^9) only[go_sem,bP]
 | some p =>
  cases y with
  | none =>
   refine fe func159 ntmps159 results159 fun hwf=>?_
   refine Cz (bM p) ?_
   refine cw gy ?_
   refine Nz ?_
   try simp (maxSteps:=9^9) only[go_sem,bP]
  | some q =>
   have hc:=bR (some p) (some q) hx hy
   have e:bG (some p) (some q)=eI p q:=rfl
   rw[e] at hc
   by_cases h:eI p q<=0
   ·have e2:bP (some p) (some q)=some p:=if_pos h
    rw[e2]
    refine fe func159 ntmps159 results159 fun hwf=>?_
    refine Cz (bM p) ?_
    refine cw (bM q) ?_
    refine Bz hc ?_
    try simp (maxSteps:=9^9) only[go_sem,h]
   ·have e2:bP (some p) (some q)=some q:=if_neg h
    rw[e2]
    refine fe func159 ntmps159 results159 fun hwf=>?_
    refine Cz (bM p) ?_
    refine cw (bM q) ?_
    refine Bz hc ?_
    try simp (maxSteps:=9^9) only[go_sem,h]
theorem Pf (l:List DR) (hb:l.length<=1000000000) (h:∀r ∈ l,r.1.2.length<=16777216/\r.2.length<=16777216):Fn prog 162 [⟨.slice au,l⟩] true [⟨.slice au,l⟩]:=by
 refine fe func162 ntmps162 results162 fun hwf=>?_
 have hl:l.length<=9223372036854775807:=(hwf ⟨.slice au,l⟩ ah).1
 refine Nz ?_
 refine aF.intro _ _ _ (fun i:Nat=>⟨[(3,.row 0 0),(7,.sl au l),(8,.sc (.int .i64 l.length)),(9,.sc (.int .i64 i))],[(0,.row 40 au 0 true (l.take i))]⟩) (fun i=>i<=l.length) (fun i=>l.length - i) 0 ?_ (zero_le _) ?_
 ·refine Wk.mk [] ?_
  refine Nz ?_
  try (and_intros<;>first|rfl|omega|exact⟨_,rfl⟩)
  all_goals (exact⟨rfl,rfl⟩)
 ·rintro i hi
  refine Nz ?_
  refine ao ?_ ?_<;>intro hA
  ·have hlt:i < l.length:=J
   have ht:(List.take i l).length=i:=by rw[length_take]; omega
   have hm:=h (nth (t:=au) l i) (by rw[aM hlt]; exact getElem_mem hlt)
   have c1:=nc (nth (t:=au) l i) hm.1 hm.2
   have e:l.take (i+1)=l.take i++[nth (t:=au) l i]:=by rw[aM hlt]; exact List.take_succ_eq_append_getElem hlt
   refine Bz c1 ?_
   refine Tz ht ?_
   refine az.mk (i+1) ?_ J J
   refine Wk.mk [] ?_
   refine Nz ?_
   try (and_intros<;>first|rfl|omega|exact⟨_,rfl⟩)
   all_goals (rw[e]; exact⟨J,rfl⟩)
  ·rw[List.take_of_length_le J]
   try simp (maxSteps:=9^9) only[go_sem]
end DW
end Go.Proofs.YtkaclgdhlpphhaaGreat
end
