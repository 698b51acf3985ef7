/-
  Texts of a proof, one behind another: Open, Opens, OpensS, OpensT, OpensR, Hl1, Dw40, DwV, Dw42, Dw43, Rw1, So0, So1, Cp1, Cp2, Dw44, Dw14, Dw15, CnO, Dw22, Dw17, Dw28, Ints, Own, Copy, PtOr, Dw19, Dw41, Hv1, Hv2, Hv3, ArIn, Dw25, Dw45, Dw62, Dw47, Same, Dw26, Dw48, Dw49, Dw50, Dw51, Dw52, Dw53, Dw63, Dw64, Dw132, LawChangedHeadings.
-/
import Derived.ProofKit
import Derived.Deep.Slices
import Derived.Test.YtpdiggaapdhffaaGreatRows
import Derived.Shelf.GgSortFunc.InsertionK
import Derived.Shelf.SlSortCmp.NoneTotal
import Derived.Lib.SlicesCompact
import Derived.Shelf.RegionOpenPlain
import Derived.WalkKit
import Derived.Deep.LoopGhost
import Derived.Deep.Draws
import Derived.Lib.Walk
import Derived.Sort.WalkB12
import Derived.Lib.SliceRun
import Derived.Deep.AppendLies
import Derived.Test.YtpdiggaapdhffaaGreatProg
import Derived.Deep.RegionHeld3
import Derived.Deep.RegionLaw
import Derived.Test.YtpdiggaapdhffaaGreatKCH4
set_option linter.all false
set_option maxRecDepth 100000
namespace Go.Proofs.YtpdiggaapdhffaaGreat
open Go.RowKit Go.ChangeShapes Go.WideShapes Go.Deep
section
variable {H:Type} (enc:TypeId × Value->H) (P:Program) (w:World)
def Opens {α:Type} (t:TypeId) (A:Rp α):Prop:=∀ (fuel:Nat) (cs:List Value) (x:DataW H × List MemPlace),DataW.trod enc P w 0 (fun _=>true) true fuel t cs=some x->∃ a,Has A w cs a
variable {enc P w}
theorem Opens.int {t:TypeId} (ht:P.underlying t=some (.int .i64)):Opens enc P w t Rp.int:=fun fuel cs x h=>by
 obtain ⟨n,rfl,_,wn⟩:=DataW.trod_int ht h
 have:I64 n:=by simpa [Lit.wf,IntKind.min,IntKind.max,IntKind.signed,IntKind.bits,I64] using wn
 exact ⟨n,[],rfl,rfl,this⟩
theorem Opens.bool {t:TypeId} (ht:P.underlying t=some .bool):Opens enc P w t Rp.bool:=fun fuel cs x h=>by
 obtain ⟨n,rfl,_⟩:=DataW.trod_bool ht h
 exact ⟨n,[],rfl,rfl⟩
theorem Opens.prod {α β:Type} {t:TypeId} {A:Rp α} {B:Rp β} {f0 f1:Field} (ht:P.underlying t=some (.struct #[f0,f1])) (o0:f0.offset=0) (o1:f1.offset=A.size)
  (s0:P.cellsOf f0.type=A.size) (s1:P.cellsOf f1.type=B.size) (s:P.cellsOf t=A.size+B.size) (h0:Opens enc P w f0.type A) (h1:Opens enc P w f1.type B):Opens enc P w t (Rp.prod A B):=fun fuel cs x h=>by
 obtain ⟨xs,n,_,_,hl,hxl,hf⟩:=DataW.trod_struct ht h
 have e0:=hf 0 f0 rfl
 have e1:=hf 1 f1 rfl
 have hxl':xs.length=2:=hxl
 rw [o0,s0,List.getElem?_eq_getElem (by omega)] at e0
 rw [o1,s1,List.getElem?_eq_getElem (by omega)] at e1
 obtain ⟨a,fa,ra⟩:=h0 _ _ _ e0
 obtain ⟨b,fb,rb⟩:=h1 _ _ _ e1
 refine ⟨(a,b),fa++fb,_,_,fa,fb,?_,rfl,ra,rb⟩
 rw [List.drop_zero,List.take_of_length_le (show (cs.drop A.size).length<=B.size by simp; omega),List.take_append_drop]
theorem Opens.slice {α:Type} {t e:TypeId} {A:Rp α} {p:0 < A.size} (ht:P.underlying t=some (.slice e)) (hs:P.cellsOf e=A.size) (h0:Opens enc P w e A):Opens enc P w t (Rp.slice A p):=fun fuel cs x h=>by
 rcases open_slice ht h with ⟨rfl,_⟩|⟨a,len,cap,m,n,D,Pl,rfl,hb,hl,hm,hmm,hx,hi⟩
 ·exact ⟨[],[],none,0,rfl,Nat.le_refl _,Nat.zero_le _,.inl ⟨rfl,rfl⟩⟩
 ·have hcap:m=cap:=by simpa using hmm
  clear hmm hx
  rw [hs] at hi
  by_cases h0l:len=0
  ·subst h0l
   exact ⟨[],[],some a,cap,rfl,Nat.zero_le _,hm,.inl ⟨rfl,rfl⟩⟩
  have hel:∀ i,i < len->∃ y:α × List Nat × List Value,A.rep w y.2.2 y.1 y.2.1/\∀ j v,y.2.2[j]? = some v->w.cell? ((a.add (i * A.size)).add j)=some v:=by
   intro i hil
   obtain ⟨cs',hc,htr⟩:=hi i (by omega)
   obtain ⟨x,f,r⟩:=h0 _ _ _ htr
   obtain ⟨_,hcl,hat⟩:=World.cells?_some hc
   refine ⟨(x,f,cs'),r,fun j v hv=>?_⟩
   have hj:j < cs'.length:=(List.getElem?_eq_some_iff.1 hv).1
   rw [hat j (by omega)]
   exact hv
  have hex:∃ ys:List (α × List Nat × List Value),ys.length=len/\∀ i y,ys[i]? = some y->A.rep w y.2.2 y.1 y.2.1/\∀ j v,y.2.2[j]? = some v->w.cell? ((a.add (i * A.size)).add j)=some v:=by
   have:∀ k,k<=len->∃ ys:List (α × List Nat × List Value),ys.length=k/\∀ i y,ys[i]? = some y->A.rep w y.2.2 y.1 y.2.1/\∀ j v,y.2.2[j]? = some v->w.cell? ((a.add (i * A.size)).add j)=some v:=by
    intro k
    induction k with
    | zero=>intro _; exact ⟨[],rfl,fun i y h=>by simp at h⟩
    | succ k ih =>
     intro hk
     obtain ⟨ys,hyl,hys⟩:=ih (by omega)
     obtain ⟨y,hy⟩:=hel k (by omega)
     refine ⟨ys++[y],by simp [hyl],fun i z hz=>?_⟩
     rcases Nat.lt_or_ge i ys.length with hi|hi
     ·rw [List.getElem?_append_left hi] at hz
      exact hys i z hz
     ·have hik:i=k:=by
       have:=(List.getElem?_eq_some_iff.1 hz).1
       simp at this
       omega
      subst hik
      rw [<-hyl] at hz ⊢
      simp at hz
      subst hz
      exact hyl ▸ hy
   exact this len (Nat.le_refl _)
  obtain ⟨ys,hyl,hys⟩:=hex
  have hspot:a.spot=none:=by
   have hy0:ys[0]? = some (ys[0]'(by omega)):=List.getElem?_eq_getElem (by omega)
   obtain ⟨r,hc⟩:=hys 0 _ hy0
   have hcl:=A.len r
   have h0c:=hc 0 _ (List.getElem?_eq_getElem (by omega))
   simp [Addr.add] at h0c
   exact World.cell?_spot h0c
  obtain ⟨b,off,spot⟩:=a
  simp at hspot
  subst hspot
  refine ⟨ys.map (·.1),b :: (ys.map (·.2.1)).flatten,some ⟨b,off,none⟩,cap,by simp [hyl],by simpa [hyl] using hl,hm,.inr ⟨b,off,ys.map (·.2.1),?_,rfl,rfl,by simp,fun i x hx=>?_⟩⟩
  ·intro hn
   have:ys=[]:=by simpa using hn
   subst this
   simp at hyl
   omega
  ·rw [List.getElem?_map] at hx
   obtain ⟨y,hy,rfl⟩:=Option.map_eq_some_iff.1 hx
   obtain ⟨r,hc⟩:=hys i y hy
   refine ⟨y.2.1,y.2.2,by rw [List.getElem?_map,hy]; rfl,r,fun j v hv=>?_⟩
   have h:=hc j v hv
   rw [Go.Deep.add_add] at h
   have hadd:∀ k,(⟨b,off,none⟩:Addr).add k=⟨b,off+k,none⟩:=fun k=>by
    unfold Addr.add
    by_cases hk:k=0
    ·subst hk; rfl
    ·rw [if_neg hk]
   rw [hadd] at h
   rw [Nat.add_assoc]
   exact h
end
section
variable {H:Type} {enc:TypeId × Value->H} {w:World}
theorem oInt:Opens enc Tryz.prog w 3 Rp.int:=Opens.int Tryz.underlying3
theorem oBool:Opens enc Tryz.prog w 4 Rp.bool:=Opens.bool Tryz.underlying4
theorem oIntS:Opens enc Tryz.prog w 29 RIntS:=Opens.slice Tryz.underlying29 (by kernel_rfl) oInt
theorem oBigInt:Opens enc Tryz.prog w 131 RBigInt:=Opens.prod Tryz.underlying131 rfl rfl (by kernel_rfl) (by kernel_rfl) (by kernel_rfl) oBool oIntS
theorem oRat:Opens enc Tryz.prog w 133 RRat:=Opens.prod Tryz.underlying133 rfl rfl (by kernel_rfl) (by kernel_rfl) (by kernel_rfl) oBigInt oIntS
end
section
variable {H:Type} {enc:TypeId × Value->H} {w:World} {P:Program}
theorem Opens.prod5 {α β γ δ ε:Type} {t:TypeId} {A:Rp α} {B:Rp β} {C:Rp γ} {D:Rp δ} {E:Rp ε} {f0 f1 f2 f3 f4:Field} (ht:P.underlying t=some (.struct #[f0,f1,f2,f3,f4])) (o0:f0.offset=0) (o1:f1.offset=A.size) (o2:f2.offset=A.size+B.size) (o3:f3.offset=A.size+B.size+C.size) (o4:f4.offset=A.size+B.size+C.size+D.size)
  (s0:P.cellsOf f0.type=A.size) (s1:P.cellsOf f1.type=B.size) (s2:P.cellsOf f2.type=C.size) (s3:P.cellsOf f3.type=D.size) (s4:P.cellsOf f4.type=E.size) (s:P.cellsOf t=A.size+(B.size+(C.size+(D.size+E.size)))) (h0:Opens enc P w f0.type A) (h1:Opens enc P w f1.type B) (h2:Opens enc P w f2.type C) (h3:Opens enc P w f3.type D) (h4:Opens enc P w f4.type E):Opens enc P w t (Rp.prod A (Rp.prod B (Rp.prod C (Rp.prod D E)))):=fun fuel cs x h=>by
 obtain ⟨xs,n,_,_,hl,hxl,hf⟩:=DataW.trod_struct ht h
 have e0:=hf 0 f0 rfl
 have e1:=hf 1 f1 rfl
 have e2:=hf 2 f2 rfl
 have e3:=hf 3 f3 rfl
 have e4:=hf 4 f4 rfl
 have hxl':xs.length=5:=hxl
 rw [o0,s0,List.getElem?_eq_getElem (by omega)] at e0
 rw [o1,s1,List.getElem?_eq_getElem (by omega)] at e1
 rw [o2,s2,List.getElem?_eq_getElem (by omega)] at e2
 rw [o3,s3,List.getElem?_eq_getElem (by omega)] at e3
 rw [o4,s4,List.getElem?_eq_getElem (by omega)] at e4
 obtain ⟨a,fa,ra⟩:=h0 _ _ _ e0
 obtain ⟨b,fb,rb⟩:=h1 _ _ _ e1
 obtain ⟨c,fc,rc⟩:=h2 _ _ _ e2
 obtain ⟨d,fd,rd⟩:=h3 _ _ _ e3
 obtain ⟨e,fe,re⟩:=h4 _ _ _ e4
 refine ⟨(a,b,c,d,e),fa++(fb++(fc++(fd++fe))),_,cs.drop A.size,fa,_,?_,rfl,ra,_,(cs.drop A.size).drop B.size,fb,_,?_,rfl,rb,_,((cs.drop A.size).drop B.size).drop C.size,fc,_,?_,rfl,rc,_,_,fd,fe,?_,rfl,rd,re⟩
 ·rw [List.drop_zero,List.take_append_drop]
 ·rw [List.take_append_drop]
 ·rw [<-List.drop_drop,List.take_append_drop]
 ·rw [show cs.drop (A.size+B.size+C.size)=((cs.drop A.size).drop B.size).drop C.size by simp only [List.drop_drop,Nat.add_assoc],show cs.drop (A.size+B.size+C.size+D.size)=(((cs.drop A.size).drop B.size).drop C.size).drop D.size by simp only [List.drop_drop,Nat.add_assoc],List.take_of_length_le (show ((((cs.drop A.size).drop B.size).drop C.size).drop D.size).length<=E.size by simp; omega),List.take_append_drop]
theorem oVecX:Opens enc Tryz.prog w 23 RVec:=Opens.prod Tryz.underlying23 rfl rfl (by kernel_rfl) (by kernel_rfl) (by kernel_rfl) oInt oInt
theorem oVecSX:Opens enc Tryz.prog w 24 RVecS:=Opens.slice Tryz.underlying24 (by kernel_rfl) oVecX
theorem oVecSS:Opens enc Tryz.prog w 25 RVecSS:=Opens.slice Tryz.underlying25 (by kernel_rfl) oVecSX
theorem oScene:Opens enc Tryz.prog w 27 RScene:=Opens.prod5 Tryz.underlying27 rfl rfl rfl rfl rfl (by kernel_rfl) (by kernel_rfl) (by kernel_rfl) (by kernel_rfl) (by kernel_rfl) (by kernel_rfl) oVecX oVecX oVecSX oVecSS oVecSX
end
section
variable {H:Type} {enc:TypeId × Value->H} {w:World} {P:Program}
theorem Opens.prod3 {α β γ:Type} {t:TypeId} {A:Rp α} {B:Rp β} {C:Rp γ} {f0 f1 f2:Field} (ht:P.underlying t=some (.struct #[f0,f1,f2])) (o0:f0.offset=0) (o1:f1.offset=A.size) (o2:f2.offset=A.size+B.size)
  (s0:P.cellsOf f0.type=A.size) (s1:P.cellsOf f1.type=B.size) (s2:P.cellsOf f2.type=C.size) (s:P.cellsOf t=A.size+(B.size+C.size)) (h0:Opens enc P w f0.type A) (h1:Opens enc P w f1.type B) (h2:Opens enc P w f2.type C):Opens enc P w t (Rp.prod A (Rp.prod B C)):=fun fuel cs x h=>by
 obtain ⟨xs,n,_,_,hl,hxl,hf⟩:=DataW.trod_struct ht h
 have e0:=hf 0 f0 rfl
 have e1:=hf 1 f1 rfl
 have e2:=hf 2 f2 rfl
 have hxl':xs.length=3:=hxl
 rw [o0,s0,List.getElem?_eq_getElem (by omega)] at e0
 rw [o1,s1,List.getElem?_eq_getElem (by omega)] at e1
 rw [o2,s2,List.getElem?_eq_getElem (by omega)] at e2
 obtain ⟨a,fa,ra⟩:=h0 _ _ _ e0
 obtain ⟨b,fb,rb⟩:=h1 _ _ _ e1
 obtain ⟨c,fc,rc⟩:=h2 _ _ _ e2
 refine ⟨(a,b,c),fa++(fb++fc),_,cs.drop A.size,fa,fb++fc,?_,rfl,ra,_,_,fb,fc,?_,rfl,rb,rc⟩
 ·rw [List.drop_zero,List.take_append_drop]
 ·rw [<-List.drop_drop,List.take_of_length_le (show ((cs.drop A.size).drop B.size).length<=C.size by simp; omega),List.take_append_drop]
end
section
variable {H:Type} {enc:TypeId × Value->H} {w:World} {P:Program}
theorem Opens.prod4 {α0 α1 α2 α3:Type} {t:TypeId} {A:Rp α0} {B:Rp α1} {C:Rp α2} {D:Rp α3} {f0 f1 f2 f3:Field} (ht:P.underlying t=some (.struct #[f0,f1,f2,f3])) (o0:f0.offset=0) (o1:f1.offset=A.size) (o2:f2.offset=A.size+B.size) (o3:f3.offset=A.size+B.size+C.size)
  (s0:P.cellsOf f0.type=A.size) (s1:P.cellsOf f1.type=B.size) (s2:P.cellsOf f2.type=C.size) (s3:P.cellsOf f3.type=D.size) (s:P.cellsOf t=A.size+(B.size+(C.size+D.size))) (h0:Opens enc P w f0.type A) (h1:Opens enc P w f1.type B) (h2:Opens enc P w f2.type C) (h3:Opens enc P w f3.type D):Opens enc P w t (Rp.prod A (Rp.prod B (Rp.prod C D))):=fun fuel cs x h=>by
 obtain ⟨xs,n,_,_,hl,hxl,hf⟩:=DataW.trod_struct ht h
 have e0:=hf 0 f0 rfl
 have e1:=hf 1 f1 rfl
 have e2:=hf 2 f2 rfl
 have e3:=hf 3 f3 rfl
 have hxl':xs.length=4:=hxl
 rw [o0,s0,List.getElem?_eq_getElem (by omega)] at e0
 rw [o1,s1,List.getElem?_eq_getElem (by omega)] at e1
 rw [o2,s2,List.getElem?_eq_getElem (by omega)] at e2
 rw [o3,s3,List.getElem?_eq_getElem (by omega)] at e3
 obtain ⟨y0,q0,r0⟩:=h0 _ _ _ e0
 obtain ⟨y1,q1,r1⟩:=h1 _ _ _ e1
 obtain ⟨y2,q2,r2⟩:=h2 _ _ _ e2
 obtain ⟨y3,q3,r3⟩:=h3 _ _ _ e3
 refine ⟨(y0,y1,y2,y3),q0++(q1++(q2++q3)),_,(cs.drop A.size),q0,_,?_,rfl,r0,_,((cs.drop A.size).drop B.size),q1,_,?_,rfl,r1,_,_,q2,q3,?_,rfl,r2,r3⟩
 ·rw [List.drop_zero,List.take_append_drop]
 ·rw [List.take_append_drop]
 ·rw [show cs.drop (A.size+B.size)=((cs.drop A.size).drop B.size) by simp only [List.drop_drop,Nat.add_assoc],show cs.drop (A.size+B.size+C.size)=(((cs.drop A.size).drop B.size).drop C.size) by simp only [List.drop_drop,Nat.add_assoc],List.take_of_length_le (show ((((cs.drop A.size).drop B.size).drop C.size)).length<=D.size by simp; omega),List.take_append_drop]
theorem Opens.prod6 {α0 α1 α2 α3 α4 α5:Type} {t:TypeId} {A:Rp α0} {B:Rp α1} {C:Rp α2} {D:Rp α3} {E:Rp α4} {F:Rp α5} {f0 f1 f2 f3 f4 f5:Field} (ht:P.underlying t=some (.struct #[f0,f1,f2,f3,f4,f5])) (o0:f0.offset=0) (o1:f1.offset=A.size) (o2:f2.offset=A.size+B.size) (o3:f3.offset=A.size+B.size+C.size) (o4:f4.offset=A.size+B.size+C.size+D.size) (o5:f5.offset=A.size+B.size+C.size+D.size+E.size)
  (s0:P.cellsOf f0.type=A.size) (s1:P.cellsOf f1.type=B.size) (s2:P.cellsOf f2.type=C.size) (s3:P.cellsOf f3.type=D.size) (s4:P.cellsOf f4.type=E.size) (s5:P.cellsOf f5.type=F.size) (s:P.cellsOf t=A.size+(B.size+(C.size+(D.size+(E.size+F.size))))) (h0:Opens enc P w f0.type A) (h1:Opens enc P w f1.type B) (h2:Opens enc P w f2.type C) (h3:Opens enc P w f3.type D) (h4:Opens enc P w f4.type E) (h5:Opens enc P w f5.type F):Opens enc P w t (Rp.prod A (Rp.prod B (Rp.prod C (Rp.prod D (Rp.prod E F))))):=fun fuel cs x h=>by
 obtain ⟨xs,n,_,_,hl,hxl,hf⟩:=DataW.trod_struct ht h
 have e0:=hf 0 f0 rfl
 have e1:=hf 1 f1 rfl
 have e2:=hf 2 f2 rfl
 have e3:=hf 3 f3 rfl
 have e4:=hf 4 f4 rfl
 have e5:=hf 5 f5 rfl
 have hxl':xs.length=6:=hxl
 rw [o0,s0,List.getElem?_eq_getElem (by omega)] at e0
 rw [o1,s1,List.getElem?_eq_getElem (by omega)] at e1
 rw [o2,s2,List.getElem?_eq_getElem (by omega)] at e2
 rw [o3,s3,List.getElem?_eq_getElem (by omega)] at e3
 rw [o4,s4,List.getElem?_eq_getElem (by omega)] at e4
 rw [o5,s5,List.getElem?_eq_getElem (by omega)] at e5
 obtain ⟨y0,q0,r0⟩:=h0 _ _ _ e0
 obtain ⟨y1,q1,r1⟩:=h1 _ _ _ e1
 obtain ⟨y2,q2,r2⟩:=h2 _ _ _ e2
 obtain ⟨y3,q3,r3⟩:=h3 _ _ _ e3
 obtain ⟨y4,q4,r4⟩:=h4 _ _ _ e4
 obtain ⟨y5,q5,r5⟩:=h5 _ _ _ e5
 refine ⟨(y0,y1,y2,y3,y4,y5),q0++(q1++(q2++(q3++(q4++q5)))),_,(cs.drop A.size),q0,_,?_,rfl,r0,_,((cs.drop A.size).drop B.size),q1,_,?_,rfl,r1,_,(((cs.drop A.size).drop B.size).drop C.size),q2,_,?_,rfl,r2,_,((((cs.drop A.size).drop B.size).drop C.size).drop D.size),q3,_,?_,rfl,r3,_,_,q4,q5,?_,rfl,r4,r5⟩
 ·rw [List.drop_zero,List.take_append_drop]
 ·rw [List.take_append_drop]
 ·rw [show cs.drop (A.size+B.size)=((cs.drop A.size).drop B.size) by simp only [List.drop_drop,Nat.add_assoc],List.take_append_drop]
 ·rw [show cs.drop (A.size+B.size+C.size)=(((cs.drop A.size).drop B.size).drop C.size) by simp only [List.drop_drop,Nat.add_assoc],List.take_append_drop]
 ·rw [show cs.drop (A.size+B.size+C.size+D.size)=((((cs.drop A.size).drop B.size).drop C.size).drop D.size) by simp only [List.drop_drop,Nat.add_assoc],show cs.drop (A.size+B.size+C.size+D.size+E.size)=(((((cs.drop A.size).drop B.size).drop C.size).drop D.size).drop E.size) by simp only [List.drop_drop,Nat.add_assoc],List.take_of_length_le (show ((((((cs.drop A.size).drop B.size).drop C.size).drop D.size).drop E.size)).length<=F.size by simp; omega),List.take_append_drop]
theorem Opens.prod8 {α0 α1 α2 α3 α4 α5 α6 α7:Type} {t:TypeId} {A:Rp α0} {B:Rp α1} {C:Rp α2} {D:Rp α3} {E:Rp α4} {F:Rp α5} {G:Rp α6} {H:Rp α7} {f0 f1 f2 f3 f4 f5 f6 f7:Field} (ht:P.underlying t=some (.struct #[f0,f1,f2,f3,f4,f5,f6,f7])) (o0:f0.offset=0) (o1:f1.offset=A.size) (o2:f2.offset=A.size+B.size) (o3:f3.offset=A.size+B.size+C.size) (o4:f4.offset=A.size+B.size+C.size+D.size) (o5:f5.offset=A.size+B.size+C.size+D.size+E.size) (o6:f6.offset=A.size+B.size+C.size+D.size+E.size+F.size) (o7:f7.offset=A.size+B.size+C.size+D.size+E.size+F.size+G.size)
  (s0:P.cellsOf f0.type=A.size) (s1:P.cellsOf f1.type=B.size) (s2:P.cellsOf f2.type=C.size) (s3:P.cellsOf f3.type=D.size) (s4:P.cellsOf f4.type=E.size) (s5:P.cellsOf f5.type=F.size) (s6:P.cellsOf f6.type=G.size) (s7:P.cellsOf f7.type=H.size) (s:P.cellsOf t=A.size+(B.size+(C.size+(D.size+(E.size+(F.size+(G.size+H.size))))))) (h0:Opens enc P w f0.type A) (h1:Opens enc P w f1.type B) (h2:Opens enc P w f2.type C) (h3:Opens enc P w f3.type D) (h4:Opens enc P w f4.type E) (h5:Opens enc P w f5.type F) (h6:Opens enc P w f6.type G) (h7:Opens enc P w f7.type H):Opens enc P w t (Rp.prod A (Rp.prod B (Rp.prod C (Rp.prod D (Rp.prod E (Rp.prod F (Rp.prod G H))))))):=fun fuel cs x h=>by
 obtain ⟨xs,n,_,_,hl,hxl,hf⟩:=DataW.trod_struct ht h
 have e0:=hf 0 f0 rfl
 have e1:=hf 1 f1 rfl
 have e2:=hf 2 f2 rfl
 have e3:=hf 3 f3 rfl
 have e4:=hf 4 f4 rfl
 have e5:=hf 5 f5 rfl
 have e6:=hf 6 f6 rfl
 have e7:=hf 7 f7 rfl
 have hxl':xs.length=8:=hxl
 rw [o0,s0,List.getElem?_eq_getElem (by omega)] at e0
 rw [o1,s1,List.getElem?_eq_getElem (by omega)] at e1
 rw [o2,s2,List.getElem?_eq_getElem (by omega)] at e2
 rw [o3,s3,List.getElem?_eq_getElem (by omega)] at e3
 rw [o4,s4,List.getElem?_eq_getElem (by omega)] at e4
 rw [o5,s5,List.getElem?_eq_getElem (by omega)] at e5
 rw [o6,s6,List.getElem?_eq_getElem (by omega)] at e6
 rw [o7,s7,List.getElem?_eq_getElem (by omega)] at e7
 obtain ⟨y0,q0,r0⟩:=h0 _ _ _ e0
 obtain ⟨y1,q1,r1⟩:=h1 _ _ _ e1
 obtain ⟨y2,q2,r2⟩:=h2 _ _ _ e2
 obtain ⟨y3,q3,r3⟩:=h3 _ _ _ e3
 obtain ⟨y4,q4,r4⟩:=h4 _ _ _ e4
 obtain ⟨y5,q5,r5⟩:=h5 _ _ _ e5
 obtain ⟨y6,q6,r6⟩:=h6 _ _ _ e6
 obtain ⟨y7,q7,r7⟩:=h7 _ _ _ e7
 refine ⟨(y0,y1,y2,y3,y4,y5,y6,y7),q0++(q1++(q2++(q3++(q4++(q5++(q6++q7)))))),_,(cs.drop A.size),q0,_,?_,rfl,r0,_,((cs.drop A.size).drop B.size),q1,_,?_,rfl,r1,_,(((cs.drop A.size).drop B.size).drop C.size),q2,_,?_,rfl,r2,_,((((cs.drop A.size).drop B.size).drop C.size).drop D.size),q3,_,?_,rfl,r3,_,(((((cs.drop A.size).drop B.size).drop C.size).drop D.size).drop E.size),q4,_,?_,rfl,r4,_,((((((cs.drop A.size).drop B.size).drop C.size).drop D.size).drop E.size).drop F.size),q5,_,?_,rfl,r5,_,_,q6,q7,?_,rfl,r6,r7⟩
 ·rw [List.drop_zero,List.take_append_drop]
 ·rw [List.take_append_drop]
 ·rw [show cs.drop (A.size+B.size)=((cs.drop A.size).drop B.size) by simp only [List.drop_drop,Nat.add_assoc],List.take_append_drop]
 ·rw [show cs.drop (A.size+B.size+C.size)=(((cs.drop A.size).drop B.size).drop C.size) by simp only [List.drop_drop,Nat.add_assoc],List.take_append_drop]
 ·rw [show cs.drop (A.size+B.size+C.size+D.size)=((((cs.drop A.size).drop B.size).drop C.size).drop D.size) by simp only [List.drop_drop,Nat.add_assoc],List.take_append_drop]
 ·rw [show cs.drop (A.size+B.size+C.size+D.size+E.size)=(((((cs.drop A.size).drop B.size).drop C.size).drop D.size).drop E.size) by simp only [List.drop_drop,Nat.add_assoc],List.take_append_drop]
 ·rw [show cs.drop (A.size+B.size+C.size+D.size+E.size+F.size)=((((((cs.drop A.size).drop B.size).drop C.size).drop D.size).drop E.size).drop F.size) by simp only [List.drop_drop,Nat.add_assoc],show cs.drop (A.size+B.size+C.size+D.size+E.size+F.size+G.size)=(((((((cs.drop A.size).drop B.size).drop C.size).drop D.size).drop E.size).drop F.size).drop G.size) by simp only [List.drop_drop,Nat.add_assoc],List.take_of_length_le (show ((((((((cs.drop A.size).drop B.size).drop C.size).drop D.size).drop E.size).drop F.size).drop G.size)).length<=H.size by simp; omega),List.take_append_drop]
theorem oBoxX:Opens enc Tryz.prog w 82 RBox:=Opens.prod Tryz.underlying82 rfl rfl (by kernel_rfl) (by kernel_rfl) (by kernel_rfl) oVecX oVecX
theorem oDoorX:Opens enc Tryz.prog w 146 RVec:=Opens.prod Tryz.underlying146 rfl rfl (by kernel_rfl) (by kernel_rfl) (by kernel_rfl) oInt oInt
theorem oCell:Opens enc Tryz.prog w 135 RCell:=Opens.prod6 Tryz.underlying135 rfl rfl rfl rfl rfl rfl (by kernel_rfl) (by kernel_rfl) (by kernel_rfl) (by kernel_rfl) (by kernel_rfl) (by kernel_rfl) (by kernel_rfl) oRat oRat oRat oRat oRat oRat
theorem oWall:Opens enc Tryz.prog w 138 RWall:=Opens.prod3 Tryz.underlying138 rfl rfl rfl (by kernel_rfl) (by kernel_rfl) (by kernel_rfl) (by kernel_rfl) oRat oRat oRat
theorem oCellS:Opens enc Tryz.prog w 83 RCellS:=Opens.slice Tryz.underlying83 (by kernel_rfl) oCell
theorem oWallS:Opens enc Tryz.prog w 84 RWallS:=Opens.slice Tryz.underlying84 (by kernel_rfl) oWall
theorem oDoorS:Opens enc Tryz.prog w 85 RDoorS:=Opens.slice Tryz.underlying85 (by kernel_rfl) oDoorX
theorem oIntSS:Opens enc Tryz.prog w 30 RIntSS:=Opens.slice Tryz.underlying30 (by kernel_rfl) oIntS
theorem oSlice:Opens enc Tryz.prog w 87 RSlice:=Opens.prod8 Tryz.underlying87 rfl rfl rfl rfl rfl rfl rfl rfl (by kernel_rfl) (by kernel_rfl) (by kernel_rfl) (by kernel_rfl) (by kernel_rfl) (by kernel_rfl) (by kernel_rfl) (by kernel_rfl) (by kernel_rfl) oInt oBool oBoxX oVecSS oCellS oWallS oDoorS oIntS
theorem oSliceS:Opens enc Tryz.prog w 28 RSliceS:=Opens.slice Tryz.underlying28 (by kernel_rfl) oSlice
theorem oRoad:Opens enc Tryz.prog w 32 RRoad:=Opens.prod4 Tryz.underlying32 rfl rfl rfl rfl (by kernel_rfl) (by kernel_rfl) (by kernel_rfl) (by kernel_rfl) (by kernel_rfl) oScene oSliceS oIntS oIntSS
end
end Go.Proofs.YtpdiggaapdhffaaGreat

namespace Go.Proofs.YtpdiggaapdhffaaGreat.DW
open Go.RowKit
def ltV (a b:DV):Prop:=a.1 < b.1\/a.1=b.1/\a.2 < b.2
instance (a b:DV):Decidable (ltV a b):=by unfold ltV; infer_instance
theorem ltV_irrefl (a:DV):¬ ltV a a:=by unfold ltV; omega
theorem ltV_trans {a b c:DV} (h1:ltV a b) (h2:ltV b c):ltV a c:=by unfold ltV at *; omega
theorem ltV_tri (a b:DV):ltV a b\/a=b\/ltV b a:=by
 obtain ⟨a1,a2⟩:=a
 obtain ⟨b1,b2⟩:=b
 unfold ltV
 simp only [Prod.mk.injEq]
 omega
theorem ltV_asymm {a b:DV} (h:ltV a b):¬ ltV b a:=fun h2=>ltV_irrefl _ (ltV_trans h h2)
theorem srt_unique:∀ {l m:List DV},l.Pairwise ltV->m.Pairwise ltV->(∀ x,x ∈ l ↔ x ∈ m)->l=m
 | [],[],_,_,_=>rfl
 | [],b :: m,_,_,h=>absurd ((h b).2 List.mem_cons_self) (by simp)
 | a :: l,[],_,_,h=>absurd ((h a).1 List.mem_cons_self) (by simp)
 | a :: l,b :: m,h1,h2,h=>by
  rw [List.pairwise_cons] at h1 h2
  have hab:a=b:=by
   rcases List.mem_cons.1 ((h a).1 List.mem_cons_self) with e|e
   ·exact e
   ·rcases List.mem_cons.1 ((h b).2 List.mem_cons_self) with e2|e2
    ·exact e2.symm
    ·exact absurd (ltV_trans (h1.1 b e2) (h2.1 a e)) (ltV_irrefl _)
  subst hab
  refine congrArg (a :: ·) (srt_unique h1.2 h2.2 fun x=>⟨fun hx=>?_,fun hx=>?_⟩)
  ·rcases List.mem_cons.1 ((h x).1 (List.mem_cons_of_mem _ hx)) with e|e
   ·subst e; exact absurd (h1.1 _ hx) (ltV_irrefl _)
   ·exact e
  ·rcases List.mem_cons.1 ((h x).2 (List.mem_cons_of_mem _ hx)) with e|e
   ·subst e; exact absurd (h2.1 _ hx) (ltV_irrefl _)
   ·exact e
def cmpD:List DV->List DV
 | []=>[]
 | [a]=>[a]
 | a :: b :: l=>if a=b then cmpD (b :: l) else a :: cmpD (b :: l)
theorem cmpD_mem:∀ {l:List DV} {x:DV},x ∈ cmpD l ↔ x ∈ l
 | [],x=>by simp [cmpD]
 | [a],x=>by simp [cmpD]
 | a :: b :: l,x=>by
  have ih:=cmpD_mem (l:=b :: l) (x:=x)
  unfold cmpD
  split
  ·rename_i h; subst h; rw [ih]; simp
  ·rw [List.mem_cons,ih,List.mem_cons,List.mem_cons,List.mem_cons]
theorem cmpD_len:∀ {l:List DV},(cmpD l).length<=l.length
 | []=>by simp [cmpD]
 | [a]=>by simp [cmpD]
 | a :: b :: l=>by
  have ih:=cmpD_len (l:=b :: l)
  unfold cmpD
  split<;>simp only [List.length_cons] at ih ⊢<;>omega
theorem cmpD_srt:∀ {l:List DV},l.Pairwise (fun a b=>¬ ltV b a)->(cmpD l).Pairwise ltV
 | [],_=>by simp [cmpD]
 | [a],_=>by simp [cmpD]
 | a :: b :: l,h=>by
  rw [List.pairwise_cons] at h
  have ih:=cmpD_srt h.2
  unfold cmpD
  split
  ·exact ih
  ·rename_i hne
   refine List.pairwise_cons.2 ⟨fun x hx=>?_,ih⟩
   rw [cmpD_mem] at hx
   have hb:¬ ltV b a:=h.1 b List.mem_cons_self
   have hab:ltV a b:=by
    rcases ltV_tri a b with h|h|h
    ·exact h
    ·exact absurd h hne
    ·exact absurd h hb
   rcases List.mem_cons.1 hx with rfl|hx
   ·exact hab
   ·rcases ltV_tri b x with h3|h3|h3
    ·exact ltV_trans hab h3
    ·exact h3 ▸ hab
    ·exact absurd h3 ((List.pairwise_cons.1 h.2).1 x hx)
def cfV (a b:DV):Int:=if a.1=b.1 then a.2 - b.2 else a.1 - b.1
theorem cfV_lt (a b:DV):cfV a b < 0 ↔ ltV a b:=by
 unfold cfV ltV
 split<;>omega
def leB (a b:DV):Bool:=!decide (cfV b a < 0)
theorem leB_iff (a b:DV):leB a b=true ↔ ¬ ltV b a:=by
 unfold leB
 rw [Bool.not_eq_true',decide_eq_false_iff_not,cfV_lt]
def srtD (l:List DV):List DV:=cmpD (l.mergeSort leB)
theorem srtD_mem {l:List DV} {x:DV}:x ∈ srtD l ↔ x ∈ l:=by
 unfold srtD
 rw [cmpD_mem,List.mem_mergeSort]
theorem srtD_srt (l:List DV):(srtD l).Pairwise ltV:=by
 refine cmpD_srt ?_
 have h:=List.pairwise_mergeSort (le:=leB) (fun a b c h1 h2=>by
  rw [leB_iff] at *
  intro h
  rcases ltV_tri b a with h3|h3|h3
  ·exact h1 h3
  ·subst h3; exact h2 h
  ·exact h2 (ltV_trans h h3)) (fun a b=>by
  rcases ltV_tri a b with h|h|h
  ·rw [Bool.or_eq_true]; exact .inl ((leB_iff a b).2 (ltV_asymm h))
  ·subst h; rw [Bool.or_eq_true]; exact .inl ((leB_iff a a).2 (ltV_irrefl _))
  ·rw [Bool.or_eq_true]; exact .inr ((leB_iff b a).2 (ltV_asymm h))) l
 exact h.imp fun {a b} h=>(leB_iff a b).1 h
theorem srtD_len (l:List DV):(srtD l).length<=l.length:=by
 unfold srtD
 have:=cmpD_len (l:=l.mergeSort leB)
 rw [List.length_mergeSort] at this
 exact this
theorem srtD_eq {l m:List DV} (h1:m.Pairwise ltV) (h2:∀ x,x ∈ m ↔ x ∈ l):m=srtD l:=srt_unique h1 (srtD_srt l) fun x=>by rw [h2,srtD_mem]
def insD (p:DV):List DV->List DV
 | []=>[p]
 | a :: l=>if ltV a p then a :: insD p l else if a=p then a :: l else p :: a :: l
theorem insD_mem {p x:DV}:∀ {l:List DV},x ∈ insD p l ↔ x=p\/x ∈ l
 | []=>by simp [insD]
 | a :: l=>by
  have ih:=insD_mem (p:=p) (x:=x) (l:=l)
  unfold insD
  split
  ·rw [List.mem_cons,ih,List.mem_cons]; constructor
   ·rintro (h|h|h)
    ·exact .inr (.inl h)
    ·exact .inl h
    ·exact .inr (.inr h)
   ·rintro (h|h|h)
    ·exact .inr (.inl h)
    ·exact .inl h
    ·exact .inr (.inr h)
  ·split
   ·rename_i h; subst h; simp
   ·simp
theorem insD_srt {p:DV}:∀ {l:List DV},l.Pairwise ltV->(insD p l).Pairwise ltV
 | [],_=>by simp [insD]
 | a :: l,h=>by
  have h':=h
  rw [List.pairwise_cons] at h
  unfold insD
  split
  ·rename_i hlt
   refine List.pairwise_cons.2 ⟨fun x hx=>?_,insD_srt h.2⟩
   rcases insD_mem.1 hx with rfl|hx
   ·exact hlt
   ·exact h.1 x hx
  ·split
   ·exact h'
   ·rename_i h1 h2
    have hp:ltV p a:=by
     rcases ltV_tri a p with h3|h3|h3
     ·exact absurd h3 h1
     ·exact absurd h3 h2
     ·exact h3
    refine List.pairwise_cons.2 ⟨fun x hx=>?_,h'⟩
    rcases List.mem_cons.1 hx with rfl|hx
    ·exact hp
    ·exact ltV_trans hp (h.1 x hx)
theorem insD_at {p:DV}:∀ {l:List DV} {i:Nat},i<=l.length->(∀ j,j < i->ltV (nth (t:=tVec) l j) p)->(i < l.length->¬ ltV (nth (t:=tVec) l i) p) →
  insD p l=if i < l.length/\nth (t:=tVec) l i=p then l else l.take i++p :: l.drop i
 | [],0,_,_,_=>by simp [insD]
 | [],i+1,h,_,_=>by simp at h
 | a :: l,0,_,_,h2=>by
  have h2:¬ ltV a p:=h2 (by simp)
  have e:nth (t:=tVec) (a :: l) 0=a:=rfl
  unfold insD
  rw [if_neg h2,e]
  by_cases h3:a=p
  ·rw [if_pos h3,if_pos ⟨by simp,h3⟩]
  ·rw [if_neg h3,if_neg fun h=>h3 h.2]; rfl
 | a :: l,i+1,hi,h1,h2=>by
  have e:∀ j,nth (t:=tVec) (a :: l) (j+1)=nth (t:=tVec) l j:=fun j=>by simp [nth]
  have h0:ltV a p:=h1 0 (by omega)
  have ih:=insD_at (p:=p) (l:=l) (i:=i) (by simp only [List.length_cons] at hi; omega) (fun j hj=>by rw [<-e]; exact h1 (j+1) (by omega)) (fun hj=>by rw [<-e]; exact h2 (by simp only [List.length_cons]; omega))
  unfold insD
  rw [if_pos h0,ih,e]
  by_cases h3:i < l.length/\nth (t:=tVec) l i=p
  ·rw [if_pos h3,if_pos ⟨by simp only [List.length_cons]; omega,h3.2⟩]
  ·rw [if_neg h3,if_neg fun h=>h3 ⟨by have:=h.1; simp only [List.length_cons] at this; omega,h.2⟩]; rfl
def srtI (l:List DV) (i:Nat):List DV:=(l.take i).foldl (fun s p=>insD p s) []
theorem srtI_step {l:List DV} {i:Nat} (h:i < l.length):srtI l (i+1)=insD (nth (t:=tVec) l i) (srtI l i):=by
 unfold srtI
 rw [nth_lt h,List.take_succ_eq_append_getElem h,List.foldl_append]; rfl
theorem ins_fold:∀ {l s:List DV},s.Pairwise ltV->(l.foldl (fun s p=>insD p s) s).Pairwise ltV/\∀ x,x ∈ l.foldl (fun s p=>insD p s) s ↔ x ∈ l\/x ∈ s
 | [],s,h=>⟨h,fun x=>by simp⟩
 | p :: l,s,h=>by
  obtain ⟨h1,h2⟩:=ins_fold (l:=l) (insD_srt (p:=p) h)
  refine ⟨h1,fun x=>?_⟩
  rw [List.foldl_cons,h2,insD_mem,List.mem_cons]
  constructor
  ·rintro (h|h|h)
   ·exact .inl (.inr h)
   ·exact .inl (.inl h)
   ·exact .inr h
  ·rintro ((h|h)|h)
   ·exact .inr (.inl h)
   ·exact .inl h
   ·exact .inr (.inr h)
theorem srtI_all (l:List DV):srtI l l.length=srtD l:=by
 unfold srtI
 rw [List.take_length]
 obtain ⟨h1,h2⟩:=ins_fold (l:=l) (s:=[]) List.Pairwise.nil
 exact srtD_eq h1 fun x=>by rw [h2]; simp
theorem insD_len {p:DV}:∀ {l:List DV},(insD p l).length<=l.length+1
 | []=>by simp [insD]
 | a :: l=>by
  have ih:=insD_len (p:=p) (l:=l)
  unfold insD
  split
  ·simp only [List.length_cons]; omega
  ·split<;>simp only [List.length_cons]<;>omega
theorem srtI_len (l:List DV):∀ i,(srtI l i).length<=i
 | 0=>by simp [srtI]
 | i+1=>by
  by_cases h:i < l.length
  ·rw [srtI_step h]
   have:=insD_len (p:=nth (t:=tVec) l i) (l:=srtI l i)
   have:=srtI_len l i
   omega
  ·have:srtI l (i+1)=srtI l i:=by
    unfold srtI; rw [List.take_of_length_le (by omega),List.take_of_length_le (by omega)]
   rw [this]
   have:=srtI_len l i
   omega
def popD (v:DV):List DV->List DV
 | b :: a :: l=>if trn a b v<=0 then popD v (a :: l) else b :: a :: l
 | l=>l
theorem popD_len {v:DV}:∀ {l:List DV},(popD v l).length<=l.length
 | []=>Nat.le_refl _
 | [a]=>Nat.le_refl _
 | b :: a :: l=>by
  unfold popD
  split
  ·exact Nat.le_trans popD_len (by simp)
  ·exact Nat.le_refl _
theorem popD_sub {v x:DV}:∀ {l:List DV},x ∈ popD v l->x ∈ l
 | [],h=>h
 | [a],h=>h
 | b :: a :: l,h=>by
  unfold popD at h
  split at h
  ·exact List.mem_cons_of_mem _ (popD_sub h)
  ·exact h
def chR (l:List DV):List DV:=l.foldl (fun c v=>v :: popD v c) []
def chRi (l:List DV) (i:Nat):List DV:=chR (l.take i)
theorem chRi_step {l:List DV} {i:Nat} (h:i < l.length):chRi l (i+1)=nth (t:=tVec) l i :: popD (nth (t:=tVec) l i) (chRi l i):=by
 unfold chRi chR
 rw [nth_lt h,List.take_succ_eq_append_getElem h,List.foldl_append]; rfl
theorem chRi_len (l:List DV):∀ i,(chRi l i).length<=i
 | 0=>by simp [chRi,chR]
 | i+1=>by
  by_cases h:i < l.length
  ·rw [chRi_step h,List.length_cons]
   have:=popD_len (v:=nth (t:=tVec) l i) (l:=chRi l i)
   have:=chRi_len l i
   omega
  ·have:chRi l (i+1)=chRi l i:=by
    unfold chRi; rw [List.take_of_length_le (by omega),List.take_of_length_le (by omega)]
   rw [this]
   have:=chRi_len l i
   omega
theorem chRi_mem {l:List DV} {x:DV}:∀ {i:Nat},x ∈ chRi l i->x ∈ l
 | 0,h=>by simp [chRi,chR] at h
 | i+1,h=>by
  by_cases hi:i < l.length
  ·rw [chRi_step hi] at h
   rcases List.mem_cons.1 h with rfl|h
   ·exact nth_mem hi
   ·exact chRi_mem (popD_sub h)
  ·have e:chRi l (i+1)=chRi l i:=by
    unfold chRi; rw [List.take_of_length_le (by omega),List.take_of_length_le (by omega)]
   rw [e] at h
   exact chRi_mem h
def chD (l:List DV):List DV:=(chR l).reverse.dropLast
def hullD (l:List DV):List DV:=if (srtD l).length < 2 then srtD l else chD (srtD l)++chD (srtD l).reverse
def rot1 (v:DV):DV:=(-v.2,v.1)
def rotN:Nat->DV->DV
 | 0,v=>v
 | n+1,v=>rot1 (rotN n v)
theorem okV_of {v:DV} (h1:-1000<=v.1) (h2:v.1<=1000) (h3:-1000<=v.2) (h4:v.2<=1000):okV v=true:=by
 unfold okV inB
 rw [Bool.and_eq_true,decide_eq_true_iff,decide_eq_true_iff]
 exact ⟨⟨h1,h2⟩,h3,h4⟩
theorem okV_rot {v:DV} (h:okV v=true):∀ n,okV (rotN n v)=true
 | 0=>h
 | n+1=>by
  have:=okV_b (okV_rot h n)
  show okV (rot1 (rotN n v))=true
  unfold rot1
  exact okV_of (by simp only; omega) (by simp only; omega) (by simp only; omega) (by simp only; omega)
theorem turnVec_fn (v:DV) (k:Int) (hv:okV v=true) (hk:0<=k/\k<=3):Fn Tryz.prog 121 [⟨tVec,v⟩,⟨.int,k⟩] false [⟨tVec,rotN k.toNat v⟩]:=by
 have e:(k % 4+4) % 4=k:=by omega
 refine fe Tryz.func121 Tryz.ntmps121 Tryz.results121 fun hwf=>?_
 try simp (maxSteps:=9^9) only[go_sem]
 refine RemW.pos (by omega) (by decide) ?_
 try simp (maxSteps:=9^9) only[go_sem]
 repeat refine AI ?_
 refine RemW.pos (by omega) (by decide) ?_
 rw [e]
 try simp (maxSteps:=9^9) only[go_sem]
 refine LoopG.intro _ _ _ (fun i:Nat=>⟨[(2,.ptr 0 0),(4,.ptr 1 0),(8,.sc (.int .i64 k)),(9,.sc (.int .i64 i))],[(1,.box [.sc (.int .i64 0),.sc (.int .i64 0)]),(0,.box [.sc (.int .i64 (rotN i v).1),.sc (.int .i64 (rotN i v).2)])]⟩) (fun i=>i<=k.toNat) (fun i=>k.toNat - i) 0 ?_ (Nat.zero_le _) ?_
 ·exact WK
 ·rintro i hi
  have hb:=okV_b (okV_rot hv i)
  have hst:rotN (i+1) v=(-(rotN i v).2,(rotN i v).1):=rfl
  generalize rotN i v=u at hb hst ⊢
  obtain ⟨b1,b2,b3,b4⟩:=hb
  try simp (maxSteps:=9^9) only[go_sem]
  refine CondW_dec (fun hA=>?_) (fun hA=>?_)
  ·try simp (maxSteps:=9^9) only[go_sem]
   repeat refine AI ?_
   refine LoopK.mk (i+1) ?_ (by omega) (by omega)
   rw [hst]
   exact WK
  ·rw [show k.toNat=i by omega]
   try simp (maxSteps:=9^9) only[go_sem]
   all_goals repeat refine AI ?_
   all_goals first|kernel_rfl|omega|rfl
theorem TurnVec_fn (v:DV) (k:Int) (hv:okV v=true) (hk:0<=k/\k<=3):Fn Tryz.prog 107 [⟨tVec,v⟩,⟨.int,k⟩] false [⟨tVec,rotN k.toNat v⟩]:=by
 have c1:=IsValidVec_fn v
 rw [hv] at c1
 have e:k % 4=k:=by omega
 have d1:=decide_eq_false (p:=k < 0) (by omega)
 refine fe Tryz.func107 Tryz.ntmps107 Tryz.results107 fun hwf=>?_
 try simp (maxSteps:=9^9) only[go_sem]
 repeat refine AI ?_
 refine cw c1 ?_
 try simp (maxSteps:=9^9) only[go_sem]
 refine RemW.pos (by omega) (by decide) ?_
 rw [e]
 try simp (maxSteps:=9^9) only[go_sem,d1]
 refine LoopG.intro _ _ _ (fun i:Nat=>⟨[(1,.sc (.int .i64 (k - i))),(2,.ptr 0 0),(4,.ptr 1 0)],[(1,.box [.sc (.int .i64 0),.sc (.int .i64 0)]),(0,.box [.sc (.int .i64 (rotN i v).1),.sc (.int .i64 (rotN i v).2)])]⟩) (fun i=>i<=k.toNat) (fun i=>k.toNat - i) 0 ?_ (Nat.zero_le _) ?_
 ·exact WK
 ·rintro i hi
  have hb:=okV_b (okV_rot hv i)
  have hst:rotN (i+1) v=(-(rotN i v).2,(rotN i v).1):=rfl
  have hki:k - (i:Int) - 1=k - ((i+1:Nat):Int):=by omega
  by_cases hA:(k:Int) - i > 0
  ·generalize rotN i v=u at hb hst ⊢
   obtain ⟨b1,b2,b3,b4⟩:=hb
   try simp (maxSteps:=9^9) only[go_sem]
   refine CondW_dec (fun hB=>?_) (fun hB=>?_)
   ·try simp (maxSteps:=9^9) only[go_sem]
    repeat refine AI ?_
    refine LoopK.mk (i+1) ?_ (by omega) (by omega)
    rw [hst]
    exact WK
   ·omega
  ·rw [show k.toNat=i by omega]
   try simp (maxSteps:=9^9) only[go_sem]
   refine CondW_dec (fun hB=>?_) (fun hB=>?_)
   ·omega
   ·try simp (maxSteps:=9^9) only[go_sem]
    all_goals repeat refine AI ?_
    all_goals first|kernel_rfl|omega|rfl
def mapi (f:DV->DV) (l:List DV) (i:Nat):List DV:=(l.take i).map f
theorem mapi_step {f:DV->DV} {l:List DV} {i:Nat} (h:i < l.length):mapi f l (i+1)=mapi f l i++[f (nth (t:=tVec) l i)]:=by
 unfold mapi
 rw [List.take_succ_eq_append_getElem h,nth_lt h,List.map_append]
 rfl
theorem mapi_len {f:DV->DV} {l:List DV} {i:Nat} (h:i<=l.length):(mapi f l i).length=i:=by
 unfold mapi
 rw [List.length_map,List.length_take]; omega
theorem mapi_all {f:DV->DV} {l:List DV} {i:Nat} (h:l.length<=i):mapi f l i=l.map f:=by
 unfold mapi
 rw [List.take_of_length_le h]
theorem any_okV_f {l:List DV} (h:∀ v ∈ l,okV v=true):(l.any fun v=>!okV v)=false:=by
 rw [List.any_eq_false]
 intro v hv
 rw [h v hv]; decide
theorem TurnPolygonI_fn (l:List DV) (k:Int) (hl:∀ v ∈ l,okV v=true) (hn:l.length<=1048576) (hk:0<=k/\k<=3):Fn Tryz.prog 113 [⟨.slice tVec,l⟩,⟨.int,k⟩] true [⟨.slice tVec,l.map (rotN k.toNat)⟩]:=by
 have c1:=areVecs_fn l
 rw [any_okV_f hl] at c1
 refine fe Tryz.func113 Tryz.ntmps113 Tryz.results113 fun hwf=>?_
 try simp (maxSteps:=9^9) only[go_sem]
 repeat refine AI ?_
 refine cw c1 ?_
 try simp (maxSteps:=9^9) only[go_sem]
 refine LoopG.intro _ _ _ (fun i:Nat=>⟨[(1,.sc (.int .i64 k)),(5,.row 0 0),(12,.sl tVec l),(13,.sc (.int .i64 l.length)),(14,.sc (.int .i64 i))],[(0,.row 36 tVec 0 true (mapi (rotN k.toNat) l i))]⟩) (fun i=>i<=l.length) (fun i=>l.length - i) 0 ?_ (Nat.zero_le _) ?_
 ·exact WK
 ·rintro i hi
  try simp (maxSteps:=9^9) only[go_sem]
  refine CondW_dec (fun hA=>?_) (fun hA=>?_)
  ·have hlt:i < l.length:=by omega
   have hml:=mapi_len (f:=rotN k.toNat) (l:=l) (i:=i) (by omega)
   have e:=mapi_step (f:=rotN k.toNat) hlt
   have c2:=turnVec_fn (nth (t:=tVec) l i) k (hl _ (nth_mem hlt)) hk
   try simp (maxSteps:=9^9) only[go_sem]
   repeat refine AI ?_
   repeat refine AI ?_
   refine cw c2 ?_
   try simp (maxSteps:=9^9) only[go_sem]
   try simp (maxSteps:=9^9) only[go_sem,hml]
   repeat refine AI ?_
   refine LoopK.mk (i+1) ?_ (by omega) (by omega)
   rw [e]
   refine Wk.mk [] ?_
   try simp (maxSteps:=9^9) only[go_sem]
   try (and_intros<;>first|rfl|omega|exact ⟨_,rfl⟩)
   all_goals (first|exact ⟨by omega,rfl⟩|exact ⟨rfl,rfl⟩)
  ·rw [mapi_all (by omega)]
   try simp (maxSteps:=9^9) only[go_sem]
theorem TurnPolygonS_fn (l:List DV) (k:Int) (hl:∀ v ∈ l,okV v=true) (hn:l.length<=1048576) (hk:0<=k/\k<=3):Fn Tryz.prog 88 [⟨.slice tVec,l⟩,⟨.int,k⟩] true [⟨.slice tVec,l.map (rotN k.toNat)⟩]:=by
 refine fe Tryz.func88 Tryz.ntmps88 Tryz.results88 fun hwf=>?_
 try simp (maxSteps:=9^9) only[go_sem]
 refine LoopG.intro _ _ _ (fun i:Nat=>⟨[(1,.sc (.int .i64 k)),(5,.row 0 0),(9,.sl tVec l),(10,.sc (.int .i64 l.length)),(11,.sc (.int .i64 i))],[(0,.row 36 tVec 0 true (mapi (rotN k.toNat) l i))]⟩) (fun i=>i<=l.length) (fun i=>l.length - i) 0 ?_ (Nat.zero_le _) ?_
 ·exact WK
 ·rintro i hi
  try simp (maxSteps:=9^9) only[go_sem]
  refine CondW_dec (fun hA=>?_) (fun hA=>?_)
  ·have hlt:i < l.length:=by omega
   have hml:=mapi_len (f:=rotN k.toNat) (l:=l) (i:=i) (by omega)
   have e:=mapi_step (f:=rotN k.toNat) hlt
   have ho:=hl _ (nth_mem hlt)
   have c1:=IsValidVec_fn (nth (t:=tVec) l i)
   rw [ho] at c1
   have c2:=TurnVec_fn (nth (t:=tVec) l i) k ho hk
   try simp (maxSteps:=9^9) only[go_sem]
   repeat refine AI ?_
   repeat refine AI ?_
   refine cw c1 ?_
   try simp (maxSteps:=9^9) only[go_sem]
   repeat refine AI ?_
   refine cw c2 ?_
   try simp (maxSteps:=9^9) only[go_sem]
   try simp (maxSteps:=9^9) only[go_sem,hml]
   repeat refine AI ?_
   refine LoopK.mk (i+1) ?_ (by omega) (by omega)
   rw [e]
   refine Wk.mk [] ?_
   try simp (maxSteps:=9^9) only[go_sem]
   try (and_intros<;>first|rfl|omega|exact ⟨_,rfl⟩)
   all_goals (first|exact ⟨by omega,rfl⟩|exact ⟨rfl,rfl⟩)
  ·rw [mapi_all (by omega)]
   try simp (maxSteps:=9^9) only[go_sem]
def negV (v:DV):DV:=(-v.1,-v.2)
theorem NegatePolygonI_fn (l:List DV) (hl:∀ v ∈ l,okV v=true) (hn:l.length<=1048576):Fn Tryz.prog 115 [⟨.slice tVec,l⟩] true [⟨.slice tVec,l.map negV⟩]:=by
 have c1:=areVecs_fn l
 rw [any_okV_f hl] at c1
 refine fe Tryz.func115 Tryz.ntmps115 Tryz.results115 fun hwf=>?_
 try simp (maxSteps:=9^9) only[go_sem]
 repeat refine AI ?_
 refine cw c1 ?_
 try simp (maxSteps:=9^9) only[go_sem]
 refine LoopG.intro _ _ _ (fun i:Nat=>⟨[(3,.row 0 0),(10,.sl tVec l),(11,.sc (.int .i64 l.length)),(12,.sc (.int .i64 i))],[(0,.row 36 tVec 0 true (mapi negV l i))]⟩) (fun i=>i<=l.length) (fun i=>l.length - i) 0 ?_ (Nat.zero_le _) ?_
 ·exact WK
 ·rintro i hi
  try simp (maxSteps:=9^9) only[go_sem]
  refine CondW_dec (fun hA=>?_) (fun hA=>?_)
  ·have hlt:i < l.length:=by omega
   have hml:=mapi_len (f:=negV) (l:=l) (i:=i) (by omega)
   have e:=mapi_step (f:=negV) hlt
   have hb:=okV_b (hl _ (nth_mem hlt))
   obtain ⟨b1,b2,b3,b4⟩:=hb
   try simp (maxSteps:=9^9) only[go_sem]
   repeat refine AI ?_
   try simp (maxSteps:=9^9) only[go_sem,hml]
   repeat refine AI ?_
   refine LoopK.mk (i+1) ?_ (by omega) (by omega)
   rw [e]
   unfold negV
   refine Wk.mk [] ?_
   try simp (maxSteps:=9^9) only[go_sem]
   try (and_intros<;>first|rfl|omega|exact ⟨_,rfl⟩)
   all_goals (first|exact ⟨by omega,rfl⟩|exact ⟨rfl,rfl⟩)
  ·rw [mapi_all (by omega)]
   try simp (maxSteps:=9^9) only[go_sem]
theorem NegatePolygonS_fn (l:List DV) (hl:∀ v ∈ l,okV v=true) (hn:l.length<=1048576):Fn Tryz.prog 90 [⟨.slice tVec,l⟩] true [⟨.slice tVec,l.map negV⟩]:=by
 refine fe Tryz.func90 Tryz.ntmps90 Tryz.results90 fun hwf=>?_
 try simp (maxSteps:=9^9) only[go_sem]
 refine LoopG.intro _ _ _ (fun i:Nat=>⟨[(3,.row 0 0),(7,.sl tVec l),(8,.sc (.int .i64 l.length)),(9,.sc (.int .i64 i))],[(0,.row 36 tVec 0 true (mapi negV l i))]⟩) (fun i=>i<=l.length) (fun i=>l.length - i) 0 ?_ (Nat.zero_le _) ?_
 ·exact WK
 ·rintro i hi
  try simp (maxSteps:=9^9) only[go_sem]
  refine CondW_dec (fun hA=>?_) (fun hA=>?_)
  ·have hlt:i < l.length:=by omega
   have hml:=mapi_len (f:=negV) (l:=l) (i:=i) (by omega)
   have e:=mapi_step (f:=negV) hlt
   have ho:=hl _ (nth_mem hlt)
   have c1:=IsValidVec_fn (nth (t:=tVec) l i)
   rw [ho] at c1
   have hb:=okV_b ho
   obtain ⟨b1,b2,b3,b4⟩:=hb
   try simp (maxSteps:=9^9) only[go_sem]
   repeat refine AI ?_
   repeat refine AI ?_
   refine cw c1 ?_
   try simp (maxSteps:=9^9) only[go_sem]
   try simp (maxSteps:=9^9) only[go_sem,hml]
   repeat refine AI ?_
   refine LoopK.mk (i+1) ?_ (by omega) (by omega)
   rw [e]
   unfold negV
   refine Wk.mk [] ?_
   try simp (maxSteps:=9^9) only[go_sem]
   try (and_intros<;>first|rfl|omega|exact ⟨_,rfl⟩)
   all_goals (first|exact ⟨by omega,rfl⟩|exact ⟨rfl,rfl⟩)
  ·rw [mapi_all (by omega)]
   try simp (maxSteps:=9^9) only[go_sem]
def addV (v c:DV):DV:=(c.1+v.1,c.2+v.2)
theorem moved_fn (l:List DV) (v:DV) (hv:okV v=true) (hl:∀ v ∈ l,okV v=true) (hn:l.length<=1048576):Fn Tryz.prog 122 [⟨.slice tVec,l⟩,⟨tVec,v⟩] true [⟨.slice tVec,l.map (addV v)⟩]:=by
 obtain ⟨q1,q2,q3,q4⟩:=okV_b hv
 refine fe Tryz.func122 Tryz.ntmps122 Tryz.results122 fun hwf=>?_
 try simp (maxSteps:=9^9) only[go_sem]
 refine LoopG.intro _ _ _ (fun i:Nat=>⟨[(3,.ptr 0 0),(5,.row 1 0),(9,.sl tVec l),(10,.sc (.int .i64 l.length)),(11,.sc (.int .i64 i))],[(1,.row 36 tVec 0 true (mapi (addV v) l i)),(0,.box [.sc (.int .i64 v.1),.sc (.int .i64 v.2)])]⟩) (fun i=>i<=l.length) (fun i=>l.length - i) 0 ?_ (Nat.zero_le _) ?_
 ·exact WK
 ·rintro i hi
  try simp (maxSteps:=9^9) only[go_sem]
  refine CondW_dec (fun hA=>?_) (fun hA=>?_)
  ·have hlt:i < l.length:=by omega
   have hml:=mapi_len (f:=addV v) (l:=l) (i:=i) (by omega)
   have e:=mapi_step (f:=addV v) hlt
   obtain ⟨b1,b2,b3,b4⟩:=okV_b (hl _ (nth_mem hlt))
   try simp (maxSteps:=9^9) only[go_sem]
   repeat refine AI ?_
   try simp (maxSteps:=9^9) only[go_sem,hml]
   repeat refine AI ?_
   refine LoopK.mk (i+1) ?_ (by omega) (by omega)
   rw [e]
   unfold addV
   refine Wk.mk [] ?_
   try simp (maxSteps:=9^9) only[go_sem]
   try (and_intros<;>first|rfl|omega|exact ⟨_,rfl⟩)
   all_goals (first|exact ⟨by omega,rfl⟩|exact ⟨rfl,rfl⟩)
  ·rw [mapi_all (by omega)]
   try simp (maxSteps:=9^9) only[go_sem]
section
variable {P:Program} {T:TypeId->Option Ty}
def RetG (T:TypeId->Option Ty) (rs:List ResultVar) (e:TypeId) (t:Ty) (l:List t.den) (σ:St):Prop :=
 match rs with
 | [r]=>∃ k ver,aRes T σ r=some (.row k ver)/\look σ.mem k=some (.row e t ver true l)
 | _=>False
theorem retG_ok (hT:TabOK P T) {fn:Func} {c:Cx} {σ:St} {Γ:Asg} {a:Act} {w:World} {e:TypeId} {t:Ty} {l:List t.den} (hs:Sim c σ Γ a w) (h:RetG T fn.results.toList e t l σ) :
  ∃ v,(results fn a.tmps).run P w=.ok v w/\∃ fps:List (List Nat),v.oneCell'=true/\GrowF t.rp c.base w e v l fps/\OwnFp c.base w fps.flatten/\∀ b ∈ fps.flatten,v.ownBlock ≠ some b:=by
 unfold RetG at h
 split at h
 ·rename_i r hr
  obtain ⟨k,ver,h1,h2⟩:=h
  obtain ⟨u,g1,g2⟩:=aRes_run (P:=P) hT hs h1 rfl
  obtain ⟨q1,B,hB,q2⟩:=g2
  rw [h2] at hB; injection hB with hB; subst hB
  obtain ⟨fps,hg,hf,hgd,hon⟩:=hs.mm k _ h2
  have hu:u=Γ.hd k:=q2.2 rfl
  have hfr:fn.results=#[r]:=toList1 hr
  refine ⟨u,?_,fps,q1,hu ▸ hg,hf ▸ hon rfl,fun b hb he=>?_⟩
  ·rw [results_eq,hfr,List.mapM_toArray,map_eq_pure_bind,Sem.run_bind,Sem.run_bind]
   simp only [List.mapM_cons,List.mapM_nil,Sem.run_bind,g1,Result.andThen_ok,Sem.run_pure]
   simp
  ·exact (hgd b (hf ▸ hb)).2 ⟨k,_,h2,by show (Γ.hd k).ownBlock=some b; rw [<-hu]; exact he⟩
 ·exact h.elim
def KRG (T:TypeId->Option Ty) (rs:List ResultVar) (e:TypeId) (t:Ty) (l:List t.den) (ex:Exit) (σ:St):Prop :=
 match ex with
 | .normal|.ret=>RetG T rs e t l σ
 | _=>False
@[go_sem] theorem KRG_n {rs:List ResultVar} {e:TypeId} {t:Ty} {l:List t.den} {σ:St}:KRG T rs e t l .normal σ=RetG T rs e t l σ:=(rfl)
@[go_sem] theorem KRG_r {rs:List ResultVar} {e:TypeId} {t:Ty} {l:List t.den} {σ:St}:KRG T rs e t l .ret σ=RetG T rs e t l σ:=(rfl)
attribute [go_sem] RetG
theorem fnG_enter (hT:TabOK P T) (hmix:P.follows .mixedOrders=true) {f:FuncId} {fn:Func} {code:Code} {args:List Dat} {e:TypeId} {t:Ty} {l:List t.den} (hf:P.funcs[f]? = some fn) (hname:(fn.name == "runtime.NumGoroutine")=false) (hb:fn.body=some code) (n:Nat) (hn:fn.ntmps=n) (rs:List ResultVar) (hr:fn.results=rs.toArray) (hna:args.length<=n)
  (h:(∀ d ∈ args,Wf d.1 d.2)->AC P T n code (KRG T rs e t l) ⟨argTm 0 args,[]⟩):FnG P f args e t l:=by
 subst hn
 have h':(∀ d ∈ args,Wf d.1 d.2)->AC P T fn.ntmps code (fun e' σ=>match e' with
   | .normal|.ret=>RetG T fn.results.toList e t l σ
   | _=>False) ⟨argTm 0 args,[]⟩:=fun hwf=>by
  have:=h hwf
  have e:(KRG T rs e t l)=fun e' σ=>match e' with
    | .normal|.ret=>RetG T fn.results.toList e t l σ
    | _=>False:=by
   have hrl:fn.results.toList=rs:=by rw [hr]
   rw [hrl]; funext e' σ; cases e'<;>rfl
  rw [e] at this
  exact this
 have:=fn_gen (VQ:=fun b S w v=>∃ fps:List (List Nat),v.oneCell'=true/\GrowF t.rp b w e v l fps/\OwnFp b w fps.flatten/\∀ b ∈ fps.flatten,v.ownBlock ≠ some b) hT hmix hf hname hb hna (fun c σ Γ a w hs hq=>retG_ok (P:=P) hT hs hq) h'
 refine ⟨this.1,fun w vs S hg ha=>(this.2 w vs S hg ha).mono ?_⟩
 rintro e w' ⟨hb,v,he,fps,q1,q2,q3,q4⟩
 exact ⟨hb,v,fps,he,q1,q2,q3,q4⟩
def RetP (T:TypeId->Option Ty) (rs:List ResultVar) (t:Ty) (x:t.den) (σ:St):Prop :=
 match rs with
 | [r]=>match aRes T σ r with
  | some (.ptr k 0)=>match look σ.mem k with
   | some (.box cs)=>Is (look σ.mem) t x cs
   | _=>False
  | _=>False
 | _=>False
def KRP (T:TypeId->Option Ty) (rs:List ResultVar) (t:Ty) (x:t.den) (ex:Exit) (σ:St):Prop :=
 match ex with
 | .normal|.ret=>RetP T rs t x σ
 | _=>False
@[go_sem] theorem KRP_n {rs:List ResultVar} {t:Ty} {x:t.den} {σ:St}:KRP T rs t x .normal σ=RetP T rs t x σ:=(rfl)
@[go_sem] theorem KRP_r {rs:List ResultVar} {t:Ty} {x:t.den} {σ:St}:KRP T rs t x .ret σ=RetP T rs t x σ:=(rfl)
attribute [go_sem] RetP
def KRC (T:TypeId->Option Ty) (rs:List ResultVar) (own:Bool) (d:Dat) (B:Blk) (ex:Exit) (σ:St):Prop :=
 match ex with
 | .normal|.ret=>RetOK T σ own rs [d]/\look σ.mem 0=some B
 | _=>False
@[go_sem] theorem KRC_n {rs:List ResultVar} {own:Bool} {d:Dat} {B:Blk} {σ:St}:KRC T rs own d B .normal σ=(RetOK T σ own rs [d]/\look σ.mem 0=some B):=(rfl)
@[go_sem] theorem KRC_r {rs:List ResultVar} {own:Bool} {d:Dat} {B:Blk} {σ:St}:KRC T rs own d B .ret σ=(RetOK T σ own rs [d]/\look σ.mem 0=some B):=(rfl)
def RetN (T:TypeId->Option Ty) (rs:List ResultVar) (cs:List AV) (σ:St):Prop :=
 match rs with
 | [r]=>match aRes T σ r with
  | some (.ptr k 0)=>look σ.mem k=some (.bx none cs)
  | _=>False
 | _=>False
def KRN (T:TypeId->Option Ty) (rs:List ResultVar) (cs:List AV) (ex:Exit) (σ:St):Prop :=
 match ex with
 | .normal|.ret=>RetN T rs cs σ
 | _=>False
@[go_sem] theorem KRN_n {rs:List ResultVar} {cs:List AV} {σ:St}:KRN T rs cs .normal σ=RetN T rs cs σ:=(rfl)
@[go_sem] theorem KRN_r {rs:List ResultVar} {cs:List AV} {σ:St}:KRN T rs cs .ret σ=RetN T rs cs σ:=(rfl)
attribute [go_sem] RetN
def KRM (T:TypeId->Option Ty) (rs:List ResultVar) (res:List Dat) (B:Blk) (ex:Exit) (σ:St):Prop :=
 match ex with
 | .normal|.ret=>RetOK T σ false rs res/\look σ.mem 0=some B
 | _=>False
@[go_sem] theorem KRM_n {rs:List ResultVar} {res:List Dat} {B:Blk} {σ:St}:KRM T rs res B .normal σ=(RetOK T σ false rs res/\look σ.mem 0=some B):=(rfl)
@[go_sem] theorem KRM_r {rs:List ResultVar} {res:List Dat} {B:Blk} {σ:St}:KRM T rs res B .ret σ=(RetOK T σ false rs res/\look σ.mem 0=some B):=(rfl)
def avW (b:Nat) (d:Dat):AV :=
 match d with
 | ⟨.cst (.ptr p),_⟩=>if p=b then .ptr 0 0 else .sc (.pointer (some ⟨p,0,none⟩))
 | d=>av d.1 d.2
def argW (b i:Nat):List Dat->Tm
 | []=>[]
 | d :: ds=>(i,avW b d) :: argW b (i+1) ds
def RetNP (T:TypeId->Option Ty) (rs:List ResultVar) (t:Ty) (x:t.den) (σ:St):Prop :=
 match rs with
 | [r]=>match aRes T σ r with
  | some (.ptr k 0)=>match look σ.mem k with
   | some (.bx none cs)=>Is (lmQ (look σ.mem)) t x (cs.take t.size)/\(match cs.drop t.size with
    | [.row j v]=>(match look σ.mem j with
     | some (.ob none v' (.map []))=>v'=v
     | _=>False)
    | _=>False)
   | _=>False
  | _=>False
 | _=>False
def KRNP (T:TypeId->Option Ty) (rs:List ResultVar) (t:Ty) (x:t.den) (ex:Exit) (σ:St):Prop :=
 match ex with
 | .normal|.ret=>RetNP T rs t x σ
 | _=>False
@[go_sem] theorem KRNP_n {rs:List ResultVar} {t:Ty} {x:t.den} {σ:St}:KRNP T rs t x .normal σ=RetNP T rs t x σ:=(rfl)
@[go_sem] theorem KRNP_r {rs:List ResultVar} {t:Ty} {x:t.den} {σ:St}:KRNP T rs t x .ret σ=RetNP T rs t x σ:=(rfl)
attribute [go_sem] RetNP avW argW
def FnB (P:Program) (f:FuncId) (vs:List AV) (M:Mm) (own:Bool) (res:List Dat):Prop :=
 (∀ vs w,(callFunc f vs).run P w=.ok (.enter f vs) w) ∧
 ∀ (c:Cx) (Γ:Asg) (a:Act) (w:World) (tm:Tm) (us:List Value),CG P c->Sim c ⟨tm,M⟩ Γ a w->All2 (fun v u=>ARep c M Γ w v u) vs us →
  Calls P f us.toArray w fun en w'=>BelowX c.X c.base c.w0 w'/\c.base<=w'.heap.size/\∃ v,en=.returned v/\ResOK own c.base c.S w' v res
def TW (P:Program) (n:Nat) (x:Code) (Q:Exit->St->Prop) (σ:St):Prop :=
 ∀ (c:Cx) (Γ:Asg) (a:Act) (w:World) (Q':Exit->Act->World->Prop),CG P c->c.n=n->Sim c σ Γ a w->(∀ e σ' Γ' a' w',Q e σ'->Sim c σ' Γ' a' w'->Q' e a' w')->x.wp P Q' a w
theorem TW.of (hT:TabOK P T) (hmix:P.follows .mixedOrders=true) {n:Nat} {x:Code} {Q:Exit->St->Prop} {σ:St} (h:AC P T n x Q σ):TW P n x Q σ :=
 fun c Γ a w Q' hcg0 hn hs hQ=>have:Nonempty (CG P c):=⟨hcg0⟩; AC_wp hT hmix (by rw [hn]; exact h) hs hQ
theorem TW.seq (hT:TabOK P T) (hmix:P.follows .mixedOrders=true) {n:Nat} {x y:Code} {Q:Exit->St->Prop} {σ:St} (h:AC P T n x (thenA (fun σ'=>TW P n y Q σ') Q) σ):TW P n (.seq x y) Q σ :=
 fun c Γ a w Q' hcg0 hn hs hQ=>by
  have hcg:Nonempty (CG P c):=⟨hcg0⟩
  refine wp_seq (AC_wp hT hmix (show AC P T c.n x _ σ by rw [hn]; exact h) hs fun e σ' Γ' a' w' hq hs'=>?_)
  cases e with
  | normal=>exact hq c Γ' a' w' Q' hcg0 hn hs' hQ
  | _=>exact hQ _ _ _ _ _ hq hs'
theorem TW.then (hT:TabOK P T) (hmix:P.follows .mixedOrders=true) {n:Nat} {x y:Code} {Q:Exit->St->Prop} {σ:St} (h:TW P n x (thenA (fun σ'=>AC P T n y Q σ') Q) σ):TW P n (.seq x y) Q σ :=
 fun c Γ a w Q' hcg0 hn hs hQ=>by
  have hcg:Nonempty (CG P c):=⟨hcg0⟩
  refine wp_seq (h c Γ a w _ hcg0 hn hs fun e σ' Γ' a' w' hq hs'=>?_)
  cases e with
  | normal=>exact AC_wp hT hmix (show AC P T c.n y Q σ' by rw [hn]; exact hq) hs' hQ
  | _=>exact hQ _ _ _ _ _ hq hs'
theorem went_app {c:Cx} [Nonempty (CG P c)] {ops:List Oper} {Q:Exit->Act->World->Prop} {post:List Oper}:∀ {os:List Oper} {es:List Eff} {σ:St} {Γ:Asg} {a:Act} {w:World},Went' P c ops σ os es->Sim c σ Γ a w->(∀ Γ' a' w',Sim c (runEs σ (os.zip es)) Γ' a' w'->wpList P ops.toArray Q post a' w')->wpList P ops.toArray Q (os++post) a w
 | [],_,σ,Γ,a,w,.nil _,hs,hQ=>hQ Γ a w hs
 | o :: os,e :: es,σ,Γ,a,w,.cons h1 h2,hs,hQ=>by
  refine wpList_step fun K hK=>?_
  exact h1.step hs (fun _ _=>rfl) (fun _ _ _ _ _=>rfl) (fun _ _=>rfl) fun Γ' a' w' hs'=>hK _ _ (went_app h2 hs' hQ)
def resV (own:Bool) (d:Dat):AV:=if own then oav 0 d else av d.1 d.2
def resM' (own:Bool) (d:Dat):Mm:=if own then (ocel 0 d.1 d.2).2 else []
def TailW (P:Program) (T:TypeId->Option Ty) (n:Nat) (ops:List Oper) (f:FuncId) (xs:List Operand) (d:Nat) (post:List Oper) (own:Bool) (r:Dat) (Q:Exit->St->Prop) (σ:St):Prop :=
 ∃ τ vs,Wk σ τ/\evs (look τ.tmps) xs=some vs/\vs.all AV.ok=true/\FnB P f vs τ.mem own [r]/\d < n/\AO P T n ops post ⟨[(d,resV own r)],resM' own r⟩ [] (fun σ' _=>Q .normal σ')
theorem TW.tail (hT:TabOK P T) {n id:Nat} {l:List Oper} (i:Nat) {d:Nat} {f:FuncId} {xs:Array Operand} {tys:Array TypeId} {ty:TypeId} {ps:String} {af:Array Edge} {post:List Oper} {own:Bool} {r:Dat} {Q:Exit->St->Prop} {σ:St}
  (hl:l.drop i=⟨some d,.call { callee:=.value (.func f),args:=xs,argTypes:=tys },ty,ps,af,none⟩ :: post)
  (h:AO P T n l (l.take i) σ [] (fun σ1 _=>TailW P T n l f xs.toList d post own r Q σ1)):TW P n (.region id l.toArray false) Q σ:=fun c Γ a w Q' hcg0 hn hs hQ=>by
 have hcg:Nonempty (CG P c):=⟨hcg0⟩
 subst hn
 obtain ⟨es,σ',h1,h3,h4⟩:=AO_went hT h Same.rfl'
 refine wp_region_lit ?_
 have hsp:l=l.take i++l.drop i:=(List.take_append_drop i l).symm
 rw [show wpList P l.toArray Q' l a w=wpList P l.toArray Q' (l.take i++l.drop i) a w by rw [<-hsp]]
 refine went_app h1 hs fun Γ1 a1 w1 hs1=>?_
 have hs1:=hs1.same h4
 obtain ⟨τ,vs,hwk,hev,hok,hfn,hd,hpost⟩:=h3
 obtain ⟨Γ2,hs2⟩:=wk_sim hs1 hwk
 rw [hl]
 refine wpList_step fun K hK=>?_
 rw [if_pos (by simp [Region.wanted])]
 have hvs:=evs_rep hs2 (xs:=xs.toList) (fun x _ t e=>rfl) hev hok
 have hvs':All2 (fun v u=>ARep c τ.mem Γ2 w1 v u) vs (xs.toList.map a1.eval):=by
  have:∀ {vs:List AV} {ys:List Operand},All2 (fun v x=>ARep c τ.mem Γ2 w1 v (a1.eval x)) vs ys->All2 (fun v u=>ARep c τ.mem Γ2 w1 v u) vs (ys.map a1.eval):=by
   intro vs ys
   induction vs generalizing ys with
   | nil=>intro h; cases ys with|nil=>trivial|cons=>exact h.elim
   | cons v vs ih=>intro h; cases ys with
    | nil=>exact h.elim
    | cons y ys=>exact ⟨h.1,ih h.2⟩
  exact this hvs
 have hrun:(execOp a1.eval ⟨some d,.call { callee:=.value (.func f),args:=xs,argTypes:=tys },ty,ps,af,none⟩).run P w1=.ok (.enter f (xs.map a1.eval)) w1:=by
  have h0:=hfn.1 (xs.map a1.eval) w1
  have e1:a1.eval (.func f)=.func (.func f) #[] #[]:=rfl
  simp [execOp,resolve,e1,Deferred.ofValue,invoke,h0]
 unfold Oper.wp
 rw [hrun,Oper.upon_enter]
 have hma:xs.map a1.eval=(xs.toList.map a1.eval).toArray:=Array.toList_inj.1 (by rw [Array.toList_map])
 rw [hma]
 refine (hfn.2 c Γ2 a1 w1 τ.tmps _ hcg0 hs2 hvs').mono ?_
 rintro e w' ⟨hb,hbs,u,rfl,fp,hdr,hown,hfp⟩
 have h0:Sim c ⟨[],[]⟩ ⟨fun _=>0,fun _=>undef,fun _=>[]⟩ a1 w' :=
  ⟨fun d v hd=>(by cases hd),fun k B hk=>(by cases hk),fun k k' B B' b hk=>(by cases hk),fun k k' B B' b hk=>(by cases hk),hb,hbs,hs1.defs,hs1.sz⟩
 have hfin:∃ Γ3,Sim c ⟨[(d,resV own r)],resM' own r⟩ Γ3 (a1.put (some d) u) w':=by
  cases own with
  | true =>
   have ho:=hown rfl
   obtain ⟨cs,hpk,hrp⟩:=hdr
   obtain ⟨Γ',s1,r1,_,_,_⟩:=h0.ocel (k:=0) hrp ho (fun b hbb=>⟨.inr (ho.2 b hbb).1,fun ⟨k,B,hB,_⟩=>by cases hB⟩) (fun b hbb j B hj=>by cases hj) (fun p hp=>rfl)
   refine ⟨Γ',?_⟩
   have hv:VRep c ((ocel 0 r.1 r.2).2++[]) Γ' w' (oav 0 r) u:=by
    unfold oav
    rcases hpk with ⟨hag,rfl⟩|⟨hag,rfl⟩
    ·rw [hag]; exact ⟨cs,rfl,r1⟩
    ·rw [hag]
     obtain ⟨v,hv1⟩:=ocel_one (k:=0) (x:=r.2) hag
     rw [hv1] at r1 ⊢
     exact crep_vrep r1.1
   have:=s1.put (d:=some d) hv (fun x hx=>by injection hx with hx; subst hx; exact hd)
   simpa [resV,resM',St.put] using this
  | false =>
   refine ⟨⟨fun _=>0,fun _=>undef,fun _=>[]⟩,?_⟩
   have hv:VRep c [] ⟨fun _=>0,fun _=>undef,fun _=>[]⟩ w' (av r.1 r.2) u:=arep_vrep (av_rep hdr fun b hbb=>⟨hfp b hbb,fun ⟨k,B,hB,_⟩=>by cases hB⟩)
   have:=h0.put (d:=some d) hv (fun x hx=>by injection hx with hx; subst hx; exact hd)
   simpa [resV,resM',St.put] using this
 obtain ⟨Γ3,hs3⟩:=hfin
 obtain ⟨es',σ'',g1,g3,g4⟩:=AO_went hT hpost Same.rfl'
 exact hK _ _ (went_list g1 hs3 fun Γ' a' w' hs'=>hQ _ _ _ _ _ g3 (hs'.same g4))
end
theorem rv_len (b a:DV) (r:List DV):(b :: a :: r).reverse.length=r.length+2:=by rw [List.length_reverse]; rfl
theorem nth_app {l m:List DV} {x:DV} (k:Nat) (h:k=l.length):nth (t:=tVec) (l++x :: m) k=x:=by
 subst h
 rw [nth_lt (by simp)]
 simp
theorem rv_a (b a:DV) (r:List DV):nth (t:=tVec) (b :: a :: r).reverse r.length=a:=by
 rw [List.reverse_cons,List.reverse_cons,List.append_assoc]
 exact nth_app _ (by simp)
theorem rv_b (b a:DV) (r:List DV):nth (t:=tVec) (b :: a :: r).reverse (r.length+1)=b:=by
 rw [List.reverse_cons,List.reverse_cons]
 exact nth_app _ (by simp)
theorem rv_take (b a:DV) (r:List DV):(b :: a :: r).reverse.take (r.length+1)=(a :: r).reverse:=by
 rw [List.reverse_cons,List.take_append_of_le_length (by simp),List.take_of_length_le (by simp)]
theorem popD_go {v b a:DV} {r:List DV} (h:trn a b v<=0):popD v (b :: a :: r)=popD v (a :: r):=by
 rw [popD,if_pos h]
theorem popD_end {v b a:DV} {r:List DV} (h:¬ trn a b v<=0):popD v (b :: a :: r)=b :: a :: r:=by
 rw [popD,if_neg h]
theorem popD_1 {v:DV} {s:List DV} (h:s.length<=1):popD v s=s:=by
 match s,h with
 | [],_=>rfl
 | [a],_=>rfl
def popOK (v:DV) (s0 s:List DV):Prop:=popD v s=popD v s0/\(∀ x ∈ s,okV x=true)/\s.length<=s0.length
theorem trq_ok {a b c:DV} (ha:okV a=true) (hb:okV b=true) (hc:okV c=true):trq a b c=trn a b c:=by
 unfold trq
 rw [ha,hb,hc]; rfl
theorem chain_fn (l:List DV) (hl:∀ v ∈ l,okV v=true) (h0:0 < l.length) (hn:l.length<=1048576):FnG Tryz.prog 129 [⟨.slice tVec,l⟩] 36 tVec (chD l):=by
 refine fnG_enter tabOK mixes Tryz.func129 rfl rfl _ Tryz.ntmps129 _ Tryz.results129 (by simp) fun hwf=>?_
 try simp (maxSteps:=9^9) only[go_sem]
 refine LoopG.intro _ _ _ (fun i:Nat=>⟨[(3,.row 0 0),(7,.sl tVec l),(8,.sc (.int .i64 l.length)),(9,.sc (.int .i64 i))],[(0,.row 36 tVec 0 true (chRi l i).reverse)]⟩) (fun i=>i<=l.length) (fun i=>l.length - i) 0 ?_ (Nat.zero_le _) ?_
 ·exact WK
 ·rintro i hi
  try simp (maxSteps:=9^9) only[go_sem]
  refine CondW_dec (fun hA=>?_) (fun hA=>?_)
  ·have hlt:i < l.length:=by omega
   have hv:=hl _ (nth_mem hlt)
   have hst:=chRi_step hlt
   have hcl:=chRi_len l i
   try simp (maxSteps:=9^9) only[go_sem]
   repeat refine AI ?_
   generalize hvv:nth (t:=tVec) l i=v at hv hst ⊢
   refine LoopG.intro _ _ _ (fun s:List DV=>⟨[(3,.row 0 0),(5,.ptr 1 0),(7,.sl tVec l),(8,.sc (.int .i64 l.length)),(9,.sc (.int .i64 i))],[(1,.box [.sc (.int .i64 v.1),.sc (.int .i64 v.2)]),(0,.row 36 tVec 0 true s.reverse)]⟩) (popOK v (chRi l i)) (fun s=>s.length) (chRi l i) ?_ ⟨rfl,fun x hx=>hl _ (chRi_mem hx),Nat.le_refl _⟩ ?_
   ·exact WK
   ·rintro s ⟨k1,k2,k3⟩
    by_cases h1:s.length<=1
    ·have hrl:s.reverse.length=s.length:=List.length_reverse
     have d1:=decide_eq_false (p:=(s.reverse.length:Int) > 1) (by omega)
     try simp (maxSteps:=9^9) only[go_sem,d1]
     repeat refine AI ?_
     refine LoopK.mk (i+1) ?_ (by omega) (by omega)
     rw [hst,<-k1,popD_1 h1,List.reverse_cons]
     refine Wk.mk [] ?_
     try simp (maxSteps:=9^9) only[go_sem]
     try (and_intros<;>first|rfl|omega|exact ⟨_,rfl⟩)
     all_goals (first|exact ⟨by omega,rfl⟩|exact ⟨rfl,rfl⟩)
    ·obtain ⟨b,a,r,rfl⟩:∃ b a r,s=b :: a :: r:=by
      match s,h1 with
      | b :: a :: r,_=>exact ⟨b,a,r,rfl⟩
      | [a],h=>exact absurd (Nat.le_refl _) h
      | [],h=>exact absurd (Nat.zero_le _) h
     have ea:=rv_a b a r
     have eb:=rv_b b a r
     have et:=rv_take b a r
     have hrl:=rv_len b a r
     have oa:=k2 a (by simp)
     have ob:=k2 b (by simp)
     have hrc:(b :: a :: r).reverse++[v]=(v :: b :: a :: r).reverse:=(List.reverse_cons ..).symm
     have hls:(b :: a :: r).length=r.length+2:=rfl
     generalize hw:(b :: a :: r).reverse=w at ea eb et hrl hrc ⊢
     have d1:=decide_eq_true (p:=(w.length:Int) > 1) (by omega)
     have e2:((w.length:Int) - 2).toNat=r.length:=by omega
     have e1:((w.length:Int) - 1).toNat=r.length+1:=by omega
     have c1:=turn_fn (nth (t:=tVec) w ((w.length:Int) - 2).toNat) (nth (t:=tVec) w ((w.length:Int) - 1).toNat) v (by rw [e2,ea]; exact oa) (by rw [e1,eb]; exact ob) hv
     try simp (maxSteps:=9^9) only[go_sem,d1]
     repeat refine AI ?_
     refine cw c1 ?_
     try simp (maxSteps:=9^9) only[go_sem]
     repeat refine AI ?_
     refine CondW_dec (fun hB=>?_) (fun hB=>?_)
     ·rw [e2,e1,ea,eb] at hB
      try simp (maxSteps:=9^9) only[go_sem]
      repeat refine AI ?_
      refine SlcW.cut (e:=36) (o:=true) ⟨rfl,rfl,?_⟩
      try simp (maxSteps:=9^9) only[go_sem]
      repeat refine AI ?_
      refine LoopK.mk (a :: r) ?_ ⟨(popD_go hB).symm.trans k1,fun x hx=>k2 x (List.mem_cons_of_mem _ hx),by simp at k3 ⊢; omega⟩ (by simp)
      rw [e1,et]
      refine Wk.mk [] ?_
      try simp (maxSteps:=9^9) only[go_sem]
      try (and_intros<;>first|rfl|omega|exact ⟨_,rfl⟩)
      all_goals (first|exact ⟨by omega,rfl⟩|exact ⟨rfl,rfl⟩|trace_state)
     ·rw [e2,e1,ea,eb] at hB
      try simp (maxSteps:=9^9) only[go_sem]
      repeat refine AI ?_
      refine LoopK.mk (i+1) ?_ (by omega) (by omega)
      rw [hst,<-k1,popD_end hB,hrc]
      refine Wk.mk [] ?_
      try simp (maxSteps:=9^9) only[go_sem]
      try (and_intros<;>first|rfl|omega|exact ⟨_,rfl⟩)
      all_goals (first|exact ⟨by omega,rfl⟩|exact ⟨rfl,rfl⟩)
  ·have hii:i=l.length:=by omega
   subst hii
   have hne:0 < (chRi l l.length).reverse.length:=by
    rw [List.length_reverse]
    have:=chRi_step (l:=l) (i:=l.length - 1) (by omega)
    rw [show l.length - 1+1=l.length by omega] at this
    rw [this]; simp
   have hcl:=chRi_len l l.length
   have hrl:(chRi l l.length).reverse.length=(chRi l l.length).length:=List.length_reverse
   have hcd:chD l=(chRi l l.length).reverse.take (((chRi l l.length).reverse.length:Int) - 1).toNat:=by
    unfold chD chRi
    rw [List.take_length,List.dropLast_eq_take]
    congr 1
    omega
   rw [hcd]
   generalize (chRi l l.length).reverse=w at hne hrl ⊢
   try simp (maxSteps:=9^9) only[go_sem]
   repeat refine AI ?_
   refine SlcW.cut (e:=36) (o:=true) ⟨rfl,rfl,?_⟩
   try simp (maxSteps:=9^9) only[go_sem]
   repeat refine AI ?_
   exact ⟨0,1,rfl,rfl⟩
theorem l06Chain_fn (l:List DV) (hl:∀ v ∈ l,okV v=true) (h0:0 < l.length) (hn:l.length<=1048576):Fn Tryz.prog 119 [⟨.slice tVec,l⟩] true [⟨.slice tVec,(chR l).reverse⟩]:=by
 refine fe Tryz.func119 Tryz.ntmps119 Tryz.results119 fun hwf=>?_
 try simp (maxSteps:=9^9) only[go_sem]
 refine LoopG.intro _ _ _ (fun i:Nat=>⟨[(3,.row 0 0),(7,.sl tVec l),(8,.sc (.int .i64 l.length)),(9,.sc (.int .i64 i))],[(0,.row 36 tVec 0 true (chRi l i).reverse)]⟩) (fun i=>i<=l.length) (fun i=>l.length - i) 0 ?_ (Nat.zero_le _) ?_
 ·exact WK
 ·rintro i hi
  try simp (maxSteps:=9^9) only[go_sem]
  refine CondW_dec (fun hA=>?_) (fun hA=>?_)
  ·have hlt:i < l.length:=by omega
   have hv:=hl _ (nth_mem hlt)
   have hst:=chRi_step hlt
   have hcl:=chRi_len l i
   try simp (maxSteps:=9^9) only[go_sem]
   repeat refine AI ?_
   generalize hvv:nth (t:=tVec) l i=v at hv hst ⊢
   refine LoopG.intro _ _ _ (fun s:List DV=>⟨[(3,.row 0 0),(5,.ptr 1 0),(7,.sl tVec l),(8,.sc (.int .i64 l.length)),(9,.sc (.int .i64 i))],[(1,.box [.sc (.int .i64 v.1),.sc (.int .i64 v.2)]),(0,.row 36 tVec 0 true s.reverse)]⟩) (popOK v (chRi l i)) (fun s=>s.length) (chRi l i) ?_ ⟨rfl,fun x hx=>hl _ (chRi_mem hx),Nat.le_refl _⟩ ?_
   ·exact WK
   ·rintro s ⟨k1,k2,k3⟩
    by_cases h1:s.length<=1
    ·have hrl:s.reverse.length=s.length:=List.length_reverse
     have d1:=decide_eq_false (p:=(s.reverse.length:Int) > 1) (by omega)
     try simp (maxSteps:=9^9) only[go_sem,d1]
     repeat refine AI ?_
     refine LoopK.mk (i+1) ?_ (by omega) (by omega)
     rw [hst,<-k1,popD_1 h1,List.reverse_cons]
     refine Wk.mk [] ?_
     try simp (maxSteps:=9^9) only[go_sem]
     try (and_intros<;>first|rfl|omega|exact ⟨_,rfl⟩)
     all_goals (first|exact ⟨by omega,rfl⟩|exact ⟨rfl,rfl⟩)
    ·obtain ⟨b,a,r,rfl⟩:∃ b a r,s=b :: a :: r:=by
      match s,h1 with
      | b :: a :: r,_=>exact ⟨b,a,r,rfl⟩
      | [a],h=>exact absurd (Nat.le_refl _) h
      | [],h=>exact absurd (Nat.zero_le _) h
     have ea:=rv_a b a r
     have eb:=rv_b b a r
     have et:=rv_take b a r
     have hrl:=rv_len b a r
     have oa:=k2 a (by simp)
     have ob:=k2 b (by simp)
     have hrc:(b :: a :: r).reverse++[v]=(v :: b :: a :: r).reverse:=(List.reverse_cons ..).symm
     have hls:(b :: a :: r).length=r.length+2:=rfl
     generalize hw:(b :: a :: r).reverse=w at ea eb et hrl hrc ⊢
     have d1:=decide_eq_true (p:=(w.length:Int) > 1) (by omega)
     have e2:((w.length:Int) - 2).toNat=r.length:=by omega
     have e1:((w.length:Int) - 1).toNat=r.length+1:=by omega
     have c1:=Turn_fn (nth (t:=tVec) w ((w.length:Int) - 2).toNat) (nth (t:=tVec) w ((w.length:Int) - 1).toNat) v
     rw [trq_ok (by rw [e2,ea]; exact oa) (by rw [e1,eb]; exact ob) hv] at c1
     try simp (maxSteps:=9^9) only[go_sem,d1]
     repeat refine AI ?_
     refine cw c1 ?_
     try simp (maxSteps:=9^9) only[go_sem]
     repeat refine AI ?_
     refine CondW_dec (fun hB=>?_) (fun hB=>?_)
     ·rw [e2,e1,ea,eb] at hB
      try simp (maxSteps:=9^9) only[go_sem]
      repeat refine AI ?_
      refine SlcW.cut (e:=36) (o:=true) ⟨rfl,rfl,?_⟩
      try simp (maxSteps:=9^9) only[go_sem]
      repeat refine AI ?_
      refine LoopK.mk (a :: r) ?_ ⟨(popD_go hB).symm.trans k1,fun x hx=>k2 x (List.mem_cons_of_mem _ hx),by simp at k3 ⊢; omega⟩ (by simp)
      rw [e1,et]
      refine Wk.mk [] ?_
      try simp (maxSteps:=9^9) only[go_sem]
      try (and_intros<;>first|rfl|omega|exact ⟨_,rfl⟩)
      all_goals (first|exact ⟨by omega,rfl⟩|exact ⟨rfl,rfl⟩|trace_state)
     ·rw [e2,e1,ea,eb] at hB
      try simp (maxSteps:=9^9) only[go_sem]
      repeat refine AI ?_
      refine LoopK.mk (i+1) ?_ (by omega) (by omega)
      rw [hst,<-k1,popD_end hB,hrc]
      refine Wk.mk [] ?_
      try simp (maxSteps:=9^9) only[go_sem]
      try (and_intros<;>first|rfl|omega|exact ⟨_,rfl⟩)
      all_goals (first|exact ⟨by omega,rfl⟩|exact ⟨rfl,rfl⟩)
  ·have hcr:(chR l).reverse=(chRi l i).reverse:=by
    unfold chRi
    rw [List.take_of_length_le (by omega)]
   rw [hcr]
   try simp (maxSteps:=9^9) only[go_sem]
theorem l06Less_fn (a b:DV):Fn Tryz.prog 118 [⟨tVec,a⟩,⟨tVec,b⟩] false [⟨.bool,decide (ltV a b)⟩]:=by
 by_cases h1:a.1 < b.1
 ·have d1:=decide_eq_true h1
  rw [decide_eq_true (p:=ltV a b) (.inl h1)]
  refine fe Tryz.func118 Tryz.ntmps118 Tryz.results118 fun hwf=>?_
  try simp (maxSteps:=9^9) only[go_sem,d1]
 ·have d1:=decide_eq_false h1
  by_cases h2:a.1=b.1
  ·have d2:=decide_eq_true h2
   have e:decide (ltV a b)=decide (a.2 < b.2):=by
    by_cases h3:a.2 < b.2
    ·rw [decide_eq_true h3,decide_eq_true (p:=ltV a b) (.inr ⟨h2,h3⟩)]
    ·rw [decide_eq_false h3,decide_eq_false (p:=ltV a b) (fun h=>by unfold ltV at h; omega)]
   rw [e]
   refine fe Tryz.func118 Tryz.ntmps118 Tryz.results118 fun hwf=>?_
   try simp (maxSteps:=9^9) only[go_sem,d1,d2]
  ·have d2:=decide_eq_false h2
   rw [decide_eq_false (p:=ltV a b) (fun h=>by unfold ltV at h; omega)]
   refine fe Tryz.func118 Tryz.ntmps118 Tryz.results118 fun hwf=>?_
   try simp (maxSteps:=9^9) only[go_sem,d1,d2]
def bkD (l:List DV) (n:Nat):List DV:=l.reverse.take n
theorem bkD_step {l:List DV} {n:Nat} (h:n < l.length):bkD l (n+1)=bkD l n++[nth (t:=tVec) l (l.length - 1 - n)]:=by
 unfold bkD
 rw [List.take_add_one,List.getElem?_eq_getElem (by rw [List.length_reverse]; exact h),List.getElem_reverse,nth_lt (by omega)]
 rfl
theorem bkD_len {l:List DV} {n:Nat} (h:n<=l.length):(bkD l n).length=n:=by
 unfold bkD; rw [List.length_take,List.length_reverse]; omega
theorem bkD_all {l:List DV} {n:Nat} (h:l.length<=n):bkD l n=l.reverse:=by
 unfold bkD; rw [List.take_of_length_le (by rw [List.length_reverse]; exact h)]
theorem hullD_lt3 {l:List DV} (h:(srtD l).length < 3):hullD l=srtD l:=by
 unfold hullD
 split
 ·rfl
 ·match hs:srtD l,h with
  | [],_=>rfl
  | [a],_=>exact absurd (show (srtD l).length < 2 by rw [hs]; exact Nat.lt_succ_self _) (by assumption)
  | [a,b],_=>rfl
theorem chD_take (l:List DV):chD l=(chR l).reverse.take ((chR l).reverse.length - 1):=List.dropLast_eq_take
theorem chR_len (l:List DV):(chR l).length<=l.length:=by
 have:=chRi_len l l.length
 unfold chRi at this
 rwa [List.take_length] at this
theorem chR_pos (l:List DV) (h:0 < l.length):0 < (chR l).length:=by
 have:=chRi_step (l:=l) (i:=l.length - 1) (by omega)
 rw [show l.length - 1+1=l.length by omega] at this
 unfold chRi at this
 rw [List.take_length] at this
 rw [this]; simp
set_option maxHeartbeats 1000000 in
theorem specHull_fn (l:List DV) (hl:∀ v ∈ l,okV v=true) (hn:l.length<=64):Fn Tryz.prog 108 [⟨.slice tVec,l⟩] true [⟨.slice tVec,hullD l⟩]:=by
 have d0:=decide_eq_false (p:=(l.length:Int) > 64) (by omega)
 refine fe Tryz.func108 Tryz.ntmps108 Tryz.results108 fun hwf=>?_
 try simp (maxSteps:=9^9) only[go_sem,d0]
 refine LoopG.intro _ _ _ (fun i:Nat=>⟨[(3,.row 0 0),(17,.sl tVec l),(18,.sc (.int .i64 l.length)),(19,.sc (.int .i64 i))],[(0,.row 36 tVec 0 true (srtI l i))]⟩) (fun i=>i<=l.length) (fun i=>l.length - i) 0 ?_ (Nat.zero_le _) ?_
 ·exact WK
 ·rintro i hi
  try simp (maxSteps:=9^9) only[go_sem]
  refine CondW_dec (fun hA=>?_) (fun hA=>?_)
  ·have hlt:i < l.length:=by omega
   have hv:=hl _ (nth_mem hlt)
   have hst:=srtI_step hlt
   have hcl:=srtI_len l i
   have c1:=IsValidVec_fn (nth (t:=tVec) l i)
   rw [hv] at c1
   generalize hvv:nth (t:=tVec) l i=v at hv hst c1 ⊢
   generalize hss:srtI l i=s at hst hcl ⊢
   try simp (maxSteps:=9^9) only[go_sem,hvv]
   repeat refine AI ?_
   repeat refine AI ?_
   refine cw c1 ?_
   try simp (maxSteps:=9^9) only[go_sem]
   refine LoopG.intro _ _ _ (fun j:Nat=>⟨[(3,.row 0 0),(5,.ptr 1 0),(6,.sc (.int .i64 j)),(17,.sl tVec l),(18,.sc (.int .i64 l.length)),(19,.sc (.int .i64 i))],[(1,.box [.sc (.int .i64 v.1),.sc (.int .i64 v.2)]),(0,.row 36 tVec 0 true s)]⟩) (fun j=>j<=s.length/\∀ j',j' < j->ltV (nth (t:=tVec) s j') v) (fun j=>s.length - j) 0 ?_ ⟨Nat.zero_le _,fun j h=>absurd h (Nat.not_lt_zero _)⟩ ?_
   ·exact WK
   ·rintro j ⟨k1,k2⟩
    have hins:=insD_at (p:=v) (l:=s) (i:=j) k1 k2
    have e5:s.take j++v :: s.drop j=s.take j++[v]++s.drop j:=by rw [List.append_assoc]; rfl
    have hlm:(s.take j).length=j:=by rw [List.length_take]; omega
    have hlm2:(s.take j++[v]).length=j+1:=by rw [List.length_append,hlm]; rfl
    have hlm3:(s.drop j).length=s.length - j:=List.length_drop
    by_cases hj:j < s.length
    ·have d1:=decide_eq_true (p:=(j:Int) < (s.length:Int)) (by omega)
     have c2:=l06Less_fn (nth (t:=tVec) s j) v
     by_cases hlt2:ltV (nth (t:=tVec) s j) v
     ·rw [decide_eq_true hlt2] at c2
      try simp (maxSteps:=9^9) only[go_sem,d1]
      repeat refine AI ?_
      refine cw c2 ?_
      try simp (maxSteps:=9^9) only[go_sem]
      repeat refine AI ?_
      refine LoopK.mk (j+1) ?_ ⟨by omega,fun j' hj'=>?_⟩ (by omega)
      ·exact WK
      ·by_cases h:j' < j
       ·exact k2 j' h
       ·rw [show j'=j by omega]; exact hlt2
     ·rw [decide_eq_false hlt2] at c2
      have hins:=hins fun _=>hlt2
      by_cases he:nth (t:=tVec) s j=v
      ·have e3:(decide ((nth (t:=tVec) s j).1=v.1) && decide ((nth (t:=tVec) s j).2=v.2))=true:=by rw [he]; simp
       rw [if_pos ⟨hj,he⟩] at hins
       try simp (maxSteps:=9^9) only[go_sem,d1]
       repeat refine AI ?_
       refine cw c2 ?_
       try simp (maxSteps:=9^9) only[go_sem]
       repeat refine AI ?_
       try simp (maxSteps:=9^9) only[go_sem,d1,e3]
       repeat refine AI ?_
       refine LoopK.mk (i+1) ?_ (by omega) (by omega)
       rw [hst,hins]
       exact WK
      ·have e3:(decide ((nth (t:=tVec) s j).1=v.1) && decide ((nth (t:=tVec) s j).2=v.2))=false:=by
        by_cases q1:(nth (t:=tVec) s j).1=v.1
        ·by_cases q2:(nth (t:=tVec) s j).2=v.2
         ·exact absurd (Prod.ext q1 q2) he
         ·rw [decide_eq_false q2,Bool.and_false]
        ·rw [decide_eq_false q1,Bool.false_and]
       rw [if_neg (fun h=>he h.2)] at hins
       try simp (maxSteps:=9^9) only[go_sem,d1]
       repeat refine AI ?_
       refine cw c2 ?_
       try simp (maxSteps:=9^9) only[go_sem]
       repeat refine AI ?_
       try simp (maxSteps:=9^9) only[go_sem,d1,e3]
       repeat refine AI ?_
       refine SlcW.keep ?_
       try simp (maxSteps:=9^9) only[go_sem]
       repeat refine AI ?_
       refine SlcW.keep ?_
       try simp (maxSteps:=9^9) only[go_sem,List.take_length]
       repeat refine AI ?_
       refine LoopK.mk (i+1) ?_ (by omega) (by omega)
       rw [hst,hins,e5]
       refine Wk.mk [(0,2)] ?_
       try simp (maxSteps:=9^9) only[go_sem]
       try (and_intros<;>first|rfl|omega|exact ⟨_,rfl⟩)
       all_goals (first|exact ⟨by omega,rfl⟩|exact ⟨rfl,rfl⟩)
    ·have d1:=decide_eq_false (p:=(j:Int) < (s.length:Int)) (by omega)
     have hins:=hins fun h=>absurd h hj
     rw [if_neg (fun h=>hj h.1)] at hins
     try simp (maxSteps:=9^9) only[go_sem,d1]
     repeat refine AI ?_
     try simp (maxSteps:=9^9) only[go_sem,d1]
     repeat refine AI ?_
     refine SlcW.keep ?_
     try simp (maxSteps:=9^9) only[go_sem]
     repeat refine AI ?_
     refine SlcW.keep ?_
     try simp (maxSteps:=9^9) only[go_sem,List.take_length]
     repeat refine AI ?_
     refine LoopK.mk (i+1) ?_ (by omega) (by omega)
     rw [hst,hins,e5]
     refine Wk.mk [(0,2)] ?_
     try simp (maxSteps:=9^9) only[go_sem]
     try (and_intros<;>first|rfl|omega|exact ⟨_,rfl⟩)
     all_goals (first|exact ⟨by omega,rfl⟩|exact ⟨rfl,rfl⟩)
  ·have hii:i=l.length:=by omega
   subst hii
   rw [srtI_all]
   have hsm:∀ v ∈ srtD l,okV v=true:=fun v hv=>hl v (srtD_mem.1 hv)
   have hsl:=srtD_len l
   by_cases h3:(srtD l).length < 3
   ·rw [hullD_lt3 h3]
    generalize srtD l=s at h3 hsl ⊢
    have d3:=decide_eq_true (p:=(s.length:Int) < 3) (by omega)
    try simp (maxSteps:=9^9) only[go_sem,d3]
   ·have hh:hullD l=chD (srtD l)++chD (srtD l).reverse:=by unfold hullD; rw [if_neg (by omega)]
    rw [hh,chD_take,chD_take]
    generalize srtD l=s at h3 hsl hsm ⊢
    have d3:=decide_eq_false (p:=(s.length:Int) < 3) (by omega)
    have hrl:s.reverse.length=s.length:=List.length_reverse
    have c3:=l06Chain_fn s hsm (by omega) (by omega)
    have c4:=l06Chain_fn s.reverse (fun v hv=>hsm v (List.mem_reverse.1 hv)) (by omega) (by omega)
    try simp (maxSteps:=9^9) only[go_sem,d3]
    repeat refine AI ?_
    refine LoopG.intro _ _ _ (fun n:Nat=>⟨[(3,.row 0 0),(8,.row 1 0),(9,.sc (.int .i64 ((s.length:Int) - 1 - n)))],[(1,.row 36 tVec 0 true (bkD s n)),(0,.row 36 tVec 0 true s)]⟩) (fun n=>n<=s.length) (fun n=>s.length - n) 0 ?_ (Nat.zero_le _) ?_
    ·exact WK
    ·rintro n hn2
     try simp (maxSteps:=9^9) only[go_sem]
     refine CondW_dec (fun hB=>?_) (fun hB=>?_)
     ·have hbl:=bkD_len (l:=s) (n:=n) (by omega)
      have hbs:=bkD_step (l:=s) (n:=n) (by omega)
      have ei:((s.length:Int) - 1 - n).toNat=s.length - 1 - n:=by omega
      try simp (maxSteps:=9^9) only[go_sem]
      repeat refine AI ?_
      rw [ei]
      try simp (maxSteps:=9^9) only[go_sem,hbl]
      repeat refine AI ?_
      refine LoopK.mk (n+1) ?_ (by omega) (by omega)
      rw [hbs]
      exact WK
     ·rw [bkD_all (by omega)]
      have q1:=chR_len s
      have q2:=chR_pos s (by omega)
      have q3:=chR_len s.reverse
      have q4:=chR_pos s.reverse (by omega)
      have q5:(chR s).reverse.length=(chR s).length:=List.length_reverse
      have q6:(chR s.reverse).reverse.length=(chR s.reverse).length:=List.length_reverse
      generalize (chR s).reverse=lo at c3 q5 ⊢
      generalize (chR s.reverse).reverse=hi at c4 q6 ⊢
      have e7:((lo.length:Int) - 1).toNat=lo.length - 1:=by omega
      have e8:((hi.length:Int) - 1).toNat=hi.length - 1:=by omega
      have q7:(lo.take (lo.length - 1)).length=lo.length - 1:=by rw [List.length_take]; omega
      have q8:(hi.take (hi.length - 1)).length=hi.length - 1:=by rw [List.length_take]; omega
      try simp (maxSteps:=9^9) only[go_sem]
      repeat refine AI ?_
      refine cw c3 ?_
      try simp (maxSteps:=9^9) only[go_sem]
      repeat refine AI ?_
      refine cw c4 ?_
      try simp (maxSteps:=9^9) only[go_sem]
      repeat refine AI ?_
      refine SlcW.keep ?_
      try simp (maxSteps:=9^9) only[go_sem]
      rw [e7]
      try simp (maxSteps:=9^9) only[go_sem,q7]
      repeat refine AI ?_
      refine SlcW.keep ?_
      try simp (maxSteps:=9^9) only[go_sem]
      rw [e8]
      try simp (maxSteps:=9^9) only[go_sem,q7,q8]
      repeat refine AI ?_
      try simp (maxSteps:=9^9) only[go_sem,q7,q8]
      omega
end Go.Proofs.YtpdiggaapdhffaaGreat.DW

namespace Go.Proofs.YtpdiggaapdhffaaGreat.DW
open Go.RowKit Go.Sort
def encV (x:Int × Int):List Value:=[.int .i64 x.1,.int .i64 x.2]
theorem rep_vec {w:World} {cs:List Value} {x:DV} {f:List Nat} (h:tVec.rp.rep w cs x f):cs=encV x/\f=[]/\I64 x.1/\I64 x.2:=by
 obtain ⟨c1,c2,f1,f2,rfl,rfl,⟨rfl,rfl,h1⟩,⟨rfl,rfl,h2⟩⟩:=h
 exact ⟨rfl,rfl,h1,h2⟩
theorem vec_rep {w:World} {x:DV} (h1:I64 x.1) (h2:I64 x.2):tVec.rp.rep w (encV x) x [] :=
 ⟨_,_,[],[],rfl,rfl,⟨rfl,rfl,h1⟩,⟨rfl,rfl,h2⟩⟩
theorem vec_size:tVec.rp.size=2:=rfl
theorem encV_at (x:DV) (j:Nat) (h:j < 2):(encV x)[j]? = some ((encV x)[j]!):=by
 match j,h with
 | 0,_=>rfl
 | 1,_=>rfl
theorem flat_at (l:List DV) {t:Nat} (h:t < l.length * 2):(flatK encV 2 l.toArray)[t]! = (encV (l[t / 2]'(by omega)))[t % 2]!:=by
 rw [get_flatK encV 2 l.toArray t (by simpa using h)]
 rw [getElem!_pos l.toArray (t / 2) (by simp; omega)]
 rfl
theorem row_in {base:Nat} {w:World} {e:TypeId} {v:Value} {l:List DV} {fps:List (List Nat)} (h:GrowF tVec.rp base w e v l fps) (h0:0 < l.length) :
  ∃ g cap cur,v=.slice (some ⟨g,0,none⟩) l.length cap/\base<=g/\w.heap[g]? = some (.cells cur e (0,0))/\l.length<=cap/\cap<=maxLen/\cur.size=cap * 2/\HoldsK encV 2 w g 0 l.toArray/\∀ x ∈ l,I64 x.1/\I64 x.2:=by
 obtain ⟨xs,⟨hxl,hor⟩,hfl,he⟩:=h
 rcases hor with ⟨_,hn⟩|⟨g,cap,cur,hv,hb,hg,hnc,hcm,hcs,htk⟩
 ·omega
 rw [vec_size] at hxl hcs htk
 refine ⟨g,cap,cur,hv,hb,hg,hnc,hcm,hcs,fun j hj=>?_,fun x hx=>?_⟩
 ·have hj2:j < l.length * 2:=by simpa using hj
  refine ⟨?_,frozen_of_row w g _ cur e hg⟩
  rw [Nat.zero_add,cell_of_row w g j cur e (0,0) hg,<-Array.getElem?_toList]
  show _=some ((flatK encV 2 l.toArray)[j]!)
  rw [flat_at l hj2]
  obtain ⟨f,cs,_,h2,h3⟩:=he (j / 2) (l[j / 2]'(by omega)) (List.getElem?_eq_getElem _)
  obtain ⟨rfl,_⟩:=rep_vec h2
  have:=h3 (j % 2) _ (encV_at _ (j % 2) (by omega))
  rw [vec_size,show j / 2 * 2+j % 2=j by omega,<-htk,List.getElem?_take,if_pos hj2] at this
  exact this
 ·obtain ⟨i,hi,rfl⟩:=List.getElem_of_mem hx
  obtain ⟨f,cs,_,h2,_⟩:=he i l[i] (List.getElem?_eq_getElem hi)
  exact (rep_vec h2).2.2
theorem row_out {base:Nat} {w w':World} {e:TypeId} {g cap n:Nat} {cur:Array Value} {os:Array Obj} {d:List DV} (hb:base<=g) (hg:w.heap[g]? = some (.cells cur e (0,0))) (hcs:cur.size=cap * 2) (hcm:cap<=maxLen) (hd:d.length<=cap) (hI:∀ x ∈ d,I64 x.1/\I64 x.2) (m:Nat) (hm:m<=d.length)
  (hw:w'=sortWorldK encV 2 w g 0 n d.toArray os) :
  GrowF tVec.rp base w' e (.slice (some ⟨g,0,none⟩) m cap) (d.take m) (List.replicate m [])/\w.grownBy w' (some g):=by
 have hgs:g < w.heap.size:=(Array.getElem?_eq_some_iff.1 hg).1
 have hg':w'.heap[g]? = some (.cells (Go.Sort.putCells id 0 (flatK encV 2 d.toArray) cur) e (0,0)):=by
  subst hw
  unfold sortWorldK putRowK putRow mapBlock grow
  have hsz:g < (Sort.ahead w n).heap.size:=hgs
  simp only [heap_ahead]
  rw [Array.getElem?_append_left (by rw [Array.size_modify]; exact hgs),Array.getElem?_modify,if_pos rfl,hg]
  rfl
 have hlt:(d.take m).length=m:=by rw [List.length_take]; omega
 have hcell:∀ t,t < d.length * 2->(Go.Sort.putCells id 0 (flatK encV 2 d.toArray) cur).toList[t]? = some ((flatK encV 2 d.toArray)[t]!):=by
  intro t ht
  rw [Array.getElem?_toList]
  unfold Go.Sort.putCells
  rw [Array.getElem?_mapIdx,Array.getElem?_eq_getElem (by omega:t < cur.size),Option.map_some,if_pos ⟨Nat.zero_le _,by rw [size_flatK]; simpa using ht⟩]
  rfl
 have hps:(Go.Sort.putCells id 0 (flatK encV 2 d.toArray) cur).size=cap * 2:=by unfold Go.Sort.putCells; rw [Array.size_mapIdx,hcs]
 refine ⟨⟨(Go.Sort.putCells id 0 (flatK encV 2 d.toArray) cur).toList.take (m * 2),⟨?_,.inr ⟨g,cap,_,?_,hb,hg',?_,hcm,hps,?_⟩⟩,?_,fun i x hx=>?_⟩,?_⟩
 ·rw [hlt,vec_size,List.length_take,Array.length_toList,hps]; omega
 ·rw [hlt]
 ·rw [hlt]; omega
 ·rw [hlt,vec_size]
 ·rw [hlt,List.length_replicate]
 ·have hi:i < m:=by have:=(List.getElem?_eq_some_iff.1 hx).1; omega
  rw [List.getElem?_take,if_pos hi] at hx
  obtain ⟨hid,hx⟩:=List.getElem?_eq_some_iff.1 hx
  subst hx
  obtain ⟨i1,i2⟩:=hI _ (List.getElem_mem hid)
  refine ⟨[],encV d[i],by simp [hi],vec_rep i1 i2,fun j v hj=>?_⟩
  have hj2:j < 2:=(List.getElem?_eq_some_iff.1 hj).1
  rw [vec_size,List.getElem?_take,if_pos (by omega),hcell _ (by omega),flat_at d (by omega)]
  have e1:(i * 2+j) / 2=i:=by omega
  have e2:(i * 2+j) % 2=j:=by omega
  simp only [e1,e2]
  rw [<-encV_at _ j hj2,hj]
 ·subst hw
  refine ⟨rfl,rfl,rfl,?_,fun k hk hne=>?_⟩
  ·rw [sortWorldK,size_grow]
   have:(putRowK encV 2 (Sort.ahead w n) g 0 d.toArray).heap.size=w.heap.size:=by unfold putRowK; rw [size_putRow]; rfl
   omega
  ·have hkg:g ≠ k:=fun h=>hne (by rw [h])
   unfold sortWorldK putRowK putRow mapBlock grow
   simp only [heap_ahead]
   rw [Array.getElem?_append_left (by rw [Array.size_modify]; exact hk),Array.getElem?_modify,if_neg hkg]
theorem FnR.of {P:Program} {f:FuncId} {xs:List Cst} {e:TypeId} {l l':List DV} (he:∀ vs w,(callFunc f vs).run P w=.ok (.enter f vs) w) (h0:0 < l.length) (ret:Bool) (d:(∀ x ∈ l,I64 x.1/\I64 x.2)->∀ (w:World) (g cap:Nat),g < w.heap.size->l.length<=cap->cap<=maxLen->HoldsK encV 2 w g 0 l.toArray →
   Calls P f (.slice (some ⟨g,0,none⟩) l.length cap :: xs.map Cst.val).toArray w fun en w'=>∃ (dd:List DV) (n:Nat) (os:Array Obj),en=.returned (if ret then .slice (some ⟨g,0,none⟩) l'.length cap else .tuple #[])/\(ret=false->l'.length=l.length)/\dd.length=l.length/\(∀ x ∈ dd,x ∈ l\/x=(0,0))/\l'=dd.take l'.length/\l'.length<=dd.length/\w'=sortWorldK encV 2 w g 0 n dd.toArray os):FnR P f xs e tVec l l' ret:=by
 refine ⟨he,rfl,fun w base v fps hone hgr=>?_⟩
 obtain ⟨g,cap,cur,rfl,hb,hg,hnc,hcm,hcs,hH,hI⟩:=row_in hgr h0
 refine (d hI w g cap (Array.getElem?_eq_some_iff.1 hg).1 hnc hcm hH).mono ?_
 rintro en w' ⟨dd,n,os,h1,h2,h3,h4,h5,h6,h7⟩
 have hI2:∀ x ∈ dd,I64 x.1/\I64 x.2:=fun x hx=>by
  rcases h4 x hx with h|rfl
  ·exact hI x h
  ·exact ⟨(by show I64 0; unfold I64; omega),(by show I64 0; unfold I64; omega)⟩
 obtain ⟨k1,k2⟩:=row_out (base:=base) hb hg hcs hcm (by omega) hI2 l'.length h6 h7
 rw [<-h5] at k1
 exact ⟨.slice (some ⟨g,0,none⟩) l'.length cap,_,h1,fun hr=>by rw [h2 hr],rfl,rfl,k1,k2⟩
end Go.Proofs.YtpdiggaapdhffaaGreat.DW

namespace Go.Proofs.YtpdiggaapdhffaaGreat.DW
open Go.RowKit Go.Shelf
def sortL_ren:Go.Shelf.Ren:=⟨fun|6=>126|14=>131|15=>132|20=>133|21=>134|22=>135|23=>136|24=>137|25=>138|26=>139|27=>140|28=>141|29=>142|46=>143|47=>144|48=>145|49=>146|50=>147|57=>148|n=>n,fun|0=>0|3=>3|4=>4|5=>5|9=>9|22=>37|23=>164|24=>36|25=>165|39=>169|45=>171|46=>172|47=>173|50=>176|53=>179|55=>181|66=>182|70=>186|76=>188|77=>189|n=>n,fun n=>n⟩
theorem sortL:SlLaysF0.n6 Tryz.prog sortL_ren where
 mixed:=by kernel_rfl
 f6:=⟨"slices.SortFunc[[]loop.example/g00811/impl.Vec,loop.example/g00811/impl.Vec]",by decide,Tryz.func126.trans (congrArg some (by kernel_rfl))⟩
 f14:=⟨"slices.pdqsortCmpFunc[loop.example/g00811/impl.Vec]",by decide,Tryz.func131.trans (congrArg some (by kernel_rfl))⟩
 f15:=Tryz.func132.trans (congrArg some (by kernel_rfl))
 f20:=⟨"slices.insertionSortCmpFunc[loop.example/g00811/impl.Vec]",by decide,Tryz.func133.trans (congrArg some (by kernel_rfl))⟩
 f21:=⟨"slices.heapSortCmpFunc[loop.example/g00811/impl.Vec]",by decide,Tryz.func134.trans (congrArg some (by kernel_rfl))⟩
 f22:=⟨"slices.breakPatternsCmpFunc[loop.example/g00811/impl.Vec]",by decide,Tryz.func135.trans (congrArg some (by kernel_rfl))⟩
 f23:=⟨"slices.choosePivotCmpFunc[loop.example/g00811/impl.Vec]",by decide,Tryz.func136.trans (congrArg some (by kernel_rfl))⟩
 f24:=⟨"slices.reverseRangeCmpFunc[loop.example/g00811/impl.Vec]",by decide,Tryz.func137.trans (congrArg some (by kernel_rfl))⟩
 f25:=⟨"slices.partialInsertionSortCmpFunc[loop.example/g00811/impl.Vec]",by decide,Tryz.func138.trans (congrArg some (by kernel_rfl))⟩
 f26:=⟨"slices.partitionEqualCmpFunc[loop.example/g00811/impl.Vec]",by decide,Tryz.func139.trans (congrArg some (by kernel_rfl))⟩
 f27:=⟨"slices.partitionCmpFunc[loop.example/g00811/impl.Vec]",by decide,Tryz.func140.trans (congrArg some (by kernel_rfl))⟩
 f28:=Tryz.func141.trans (congrArg some (by kernel_rfl))
 f29:=Tryz.func142.trans (congrArg some (by kernel_rfl))
 f46:=⟨"slices.siftDownCmpFunc[loop.example/g00811/impl.Vec]",by decide,Tryz.func143.trans (congrArg some (by kernel_rfl))⟩
 f47:=Tryz.func144.trans (congrArg some (by kernel_rfl))
 f48:=Tryz.func145.trans (congrArg some (by kernel_rfl))
 f49:=⟨"slices.medianAdjacentCmpFunc[loop.example/g00811/impl.Vec]",by decide,Tryz.func146.trans (congrArg some (by kernel_rfl))⟩
 f50:=⟨"slices.medianCmpFunc[loop.example/g00811/impl.Vec]",by decide,Tryz.func147.trans (congrArg some (by kernel_rfl))⟩
 f57:=⟨"slices.order2CmpFunc[loop.example/g00811/impl.Vec]",by decide,Tryz.func148.trans (congrArg some (by kernel_rfl))⟩
 t0:=Tryz.underlying0
 a0:=Tryz.isAgg0
 z0:=Tryz.sizeOf0
 v0:=Tryz.zeroValue0
 t3:=Tryz.underlying3
 a3:=Tryz.isAgg3
 z3:=Tryz.sizeOf3
 v3:=Tryz.zeroValue3
 t4:=Tryz.underlying4
 a4:=Tryz.isAgg4
 z4:=Tryz.sizeOf4
 v4:=Tryz.zeroValue4
 t5:=Tryz.underlying5
 a5:=Tryz.isAgg5
 z5:=Tryz.sizeOf5
 v5:=Tryz.zeroValue5
 t9:=Tryz.underlying9
 a9:=Tryz.isAgg9
 z9:=Tryz.sizeOf9
 v9:=Tryz.zeroValue9
 t22:=Tryz.underlying37
 a22:=Tryz.isAgg37
 z22:=Tryz.sizeOf37
 v22:=Tryz.zeroValue37
 t25:=Tryz.underlying165
 a25:=Tryz.isAgg165
 z25:=Tryz.sizeOf165
 v25:=Tryz.zeroValue165
 t39:=Tryz.underlying169
 a39:=Tryz.isAgg169
 z39:=Tryz.sizeOf169
 v39:=Tryz.zeroValue169
 t45:=Tryz.underlying171
 a45:=Tryz.isAgg171
 z45:=Tryz.sizeOf171
 v45:=Tryz.zeroValue171
 t46:=Tryz.underlying172
 a46:=Tryz.isAgg172
 z46:=Tryz.sizeOf172
 v46:=Tryz.zeroValue172
 t50:=Tryz.underlying176
 a50:=Tryz.isAgg176
 z50:=Tryz.sizeOf176
 v50:=Tryz.zeroValue176
 t53:=Tryz.underlying179
 a53:=Tryz.isAgg179
 z53:=Tryz.sizeOf179
 v53:=Tryz.zeroValue179
 t55:=Tryz.underlying181
 a55:=Tryz.isAgg181
 z55:=Tryz.sizeOf181
 v55:=Tryz.zeroValue181
 t66:=Tryz.underlying182
 a66:=Tryz.isAgg182
 z66:=Tryz.sizeOf182
 v66:=Tryz.zeroValue182
 t70:=Tryz.underlying186
 a70:=Tryz.isAgg186
 z70:=Tryz.sizeOf186
 v70:=Tryz.zeroValue186
 t76:=Tryz.underlying188
 a76:=Tryz.isAgg188
 z76:=Tryz.sizeOf188
 v76:=Tryz.zeroValue188
 t77:=Tryz.underlying189
 a77:=Tryz.isAgg189
 z77:=Tryz.sizeOf189
 v77:=Tryz.zeroValue189
def revL_ren:Go.Shelf.Ren:=⟨fun|35=>130|n=>n,fun|0=>0|3=>3|4=>4|22=>37|23=>36|n=>n,fun n=>n⟩
theorem revL:SlLaysE0.n35 Tryz.prog revL_ren where
 mixed:=by kernel_rfl
 f35:=⟨"slices.Reverse[[]loop.example/g00811/impl.Vec,loop.example/g00811/impl.Vec]",by decide,Tryz.func130.trans (congrArg some (by kernel_rfl))⟩
 t0:=Tryz.underlying0
 a0:=Tryz.isAgg0
 z0:=Tryz.sizeOf0
 v0:=Tryz.zeroValue0
 t3:=Tryz.underlying3
 a3:=Tryz.isAgg3
 z3:=Tryz.sizeOf3
 v3:=Tryz.zeroValue3
 t4:=Tryz.underlying4
 a4:=Tryz.isAgg4
 z4:=Tryz.sizeOf4
 v4:=Tryz.zeroValue4
 t22:=Tryz.underlying37
 a22:=Tryz.isAgg37
 z22:=Tryz.sizeOf37
 v22:=Tryz.zeroValue37
end Go.Proofs.YtpdiggaapdhffaaGreat.DW

namespace Go.Proofs.YtpdiggaapdhffaaGreat.DW
open Go.RowKit Go.Sort Go.Shelf
abbrev OV:={ v:DV // okV v=true }
instance:Inhabited OV:=⟨⟨(0,0),by decide⟩⟩
def encO (x:OV):List Value:=encV x.1
def cfO (x y:OV):Int:=cfV x.1 y.1
set_option maxHeartbeats 1000000 in
theorem compareVecs_any (a b:DV) (ha:okV a=true) (hb:okV b=true) (W:World):Calls Tryz.prog 127 #[.agg #[.int .i64 a.1,.int .i64 a.2],.agg #[.int .i64 b.1,.int .i64 b.2]] W fun e w'=>e=.returned (.int .i64 (cfV a b))/\∃ q os',w'=grow (W.drewN q) os':=by
 obtain ⟨a1,a2⟩:=a
 obtain ⟨b1,b2⟩:=b
 obtain ⟨p1,p2,p3,p4⟩:=okV_b ha
 obtain ⟨q1,q2,q3,q4⟩:=okV_b hb
 simp only at p1 p2 p3 p4 q1 q2 q3 q4
 clear ha hb
 unfold cfV
 by_cases h:a1=b1
 ·subst h
  simp only [if_true]
  go_enter Tryz.func127,Tryz.ntmps127
  go_wp2
  go_ret
  exact ⟨rfl,0,_,by rw [alloc_eq_grow,alloc_eq_grow,grow_grow]; rfl⟩
 ·simp only [h,if_false]
  go_enter Tryz.func127,Tryz.ntmps127
  go_wp2
  go_ret
  exact ⟨rfl,0,_,by rw [alloc_eq_grow,alloc_eq_grow,grow_grow]; rfl⟩
theorem cmpLays (blk off size:Nat) (w:World):CmpLays Tryz.prog 127 #[] encO 2 cfO blk off size w :=
 fun _ _ _ _ x y=>compareVecs_any x.1 y.1 x.2 y.2 _
theorem flat_val (d:List OV):flatK encO 2 d.toArray=flatK encV 2 (d.map Subtype.val).toArray:=by
 refine ext_get! (by simp) fun t ht=>?_
 have ht':t < d.length * 2:=by simpa using ht
 rw [get_flatK _ _ _ t (by simpa using ht'),get_flatK _ _ _ t (by simpa using ht'),getElem!_pos d.toArray (t / 2) (by simp; omega),getElem!_pos (d.map Subtype.val).toArray (t / 2) (by simp; omega),List.getElem_toArray,List.getElem_toArray,List.getElem_map]
 rfl
theorem swoO:SWO (ltOf cfO) where
 irrefl x:=by
  have:=cfV_lt x.1 x.1
  show decide (cfV x.1 x.1 < 0)=false
  rw [decide_eq_false_iff_not,this]
  exact ltV_irrefl _
 trans x y z h1 h2:=by
  have h1:=(cfV_lt x.1 y.1).1 (of_decide_eq_true h1)
  have h2:=(cfV_lt y.1 z.1).1 (of_decide_eq_true h2)
  exact decide_eq_true ((cfV_lt x.1 z.1).2 (ltV_trans h1 h2))
 ntrans x y z h1 h2:=by
  have h1:=fun h=>of_decide_eq_false h1 ((cfV_lt x.1 y.1).2 h)
  have h2:=fun h=>of_decide_eq_false h2 ((cfV_lt y.1 z.1).2 h)
  refine decide_eq_false fun h=>?_
  have h:=(cfV_lt x.1 z.1).1 h
  rcases ltV_tri x.1 y.1 with k|k|k
  ·exact h1 k
  ·exact h2 (k ▸ h)
  ·exact h2 (ltV_trans k h)
theorem totO (x y:OV) (h1:(ltOf cfO) x y=false) (h2:(ltOf cfO) y x=false):x=y:=by
 have h1:=fun h=>of_decide_eq_false h1 ((cfV_lt x.1 y.1).2 h)
 have h2:=fun h=>of_decide_eq_false h2 ((cfV_lt y.1 x.1).2 h)
 rcases ltV_tri x.1 y.1 with k|k|k
 ·exact (h1 k).elim
 ·exact Subtype.ext k
 ·exact (h2 k).elim
theorem exO:∀ l:List DV,(∀ v ∈ l,okV v=true)->∃ d:List OV,d.map Subtype.val=l
 | [],_=>⟨[],rfl⟩
 | v :: l,h=>by
  obtain ⟨d,hd⟩:=exO l fun x hx=>h x (List.mem_cons_of_mem _ hx)
  exact ⟨⟨v,h v List.mem_cons_self⟩ :: d,by rw [List.map_cons,hd]⟩
theorem sort_fn (l:List DV) (hl:∀ v ∈ l,okV v=true) (h0:0 < l.length) (hn:l.length<=1048576):FnR Tryz.prog 126 [.fn 127] 36 tVec l (l.mergeSort leB) false:=by
 obtain ⟨d,rfl⟩:=exO l hl
 refine FnR.of (enters_of Tryz.func126 (by kernel_rfl) rfl) h0 false fun hI w g cap hg hc hcm hH=>?_
 have hH':HoldsK encO 2 w g 0 d.toArray:=by unfold HoldsK; rw [flat_val]; exact hH
 have hdl:d.toArray.size=(d.map Subtype.val).length:=by simp
 have eg:∀ args w,(callFunc 127 args).run Tryz.prog w=.ok (.enter 127 args) w:=enters_of Tryz.func127 (by kernel_rfl) rfl
 have hcon:=AnyQ.slices_SortFunc_total sortL 2 Tryz.isAgg36 Tryz.sizeOf36 encO (fun _=>rfl) (fun x v hv=>by simp [encO,encV] at hv; rcases hv with rfl|rfl<;>rfl) cfO swoO 127 #[] g 0 cap d.toArray w eg (cmpLays g 0 _ w) hH' hg (by rw [hdl]; omega) totO
 rw [hdl] at hcon
 have hms:((d.mergeSort fun x y=>!(ltOf cfO) y x).map Subtype.val)=(d.map Subtype.val).mergeSort leB:=List.map_mergeSort fun a _ b _=>rfl
 refine Calls.mono hcon ?_
 rintro e w' ⟨rfl,n,os,rfl⟩
 refine ⟨(d.map Subtype.val).mergeSort leB,n,os,rfl,fun _=>List.length_mergeSort _,List.length_mergeSort _,fun x hx=>.inl ((List.mergeSort_perm _ _).mem_iff.1 hx),(List.take_length ..).symm,Nat.le_refl _,?_⟩
 unfold sortWorldK putRowK
 rw [<-hms,<-flat_val]
theorem reverse_fn (l:List DV) (h0:0 < l.length) (hn:l.length<=1048576):FnR Tryz.prog 130 [] 36 tVec l l.reverse false:=by
 refine FnR.of (enters_of Tryz.func130 (by kernel_rfl) rfl) h0 false fun hI w g cap hg hc hcm hH=>?_
 have hcon:=AnyQ.slices_Reverse revL 2 Tryz.isAgg36 Tryz.sizeOf36 encV (fun _=>rfl) (fun x v hv=>by simp [encV] at hv; rcases hv with rfl|rfl<;>rfl) g 0 cap l.toArray w hH (by simp; omega)
 have hdl:l.toArray.size=l.length:=by simp
 rw [hdl] at hcon
 refine Calls.mono hcon ?_
 rintro e w' ⟨rfl,n,rfl⟩
 refine ⟨l.reverse,n,#[],rfl,fun _=>List.length_reverse,List.length_reverse,fun x hx=>.inl (List.mem_reverse.1 hx),(List.take_length ..).symm,Nat.le_refl _,?_⟩
 unfold sortWorldK
 rw [grow_empty,List.reverse_toArray]
end Go.Proofs.YtpdiggaapdhffaaGreat.DW

namespace Go.Proofs.YtpdiggaapdhffaaGreat.DW
open Go.RowKit Go.Sort Go.Lib
theorem cmpD_snoc (y x:DV):∀ l:List DV,cmpD (l++[y,x])=cmpD (l++[y])++(if y=x then [] else [x])
 | []=>by
  show (if y=x then cmpD [x] else y :: cmpD [x])=[y]++_
  by_cases h:y=x
  ·rw [if_pos h,if_pos h,h]; rfl
  ·rw [if_neg h,if_neg h]; rfl
 | [a]=>by
  show (if a=y then cmpD [y,x] else a :: cmpD [y,x])=(if a=y then cmpD [y] else a :: cmpD [y])++_
  have ih:=cmpD_snoc y x []
  simp only [List.nil_append] at ih
  by_cases h:a=y
  ·rw [if_pos h,if_pos h,ih]
  ·rw [if_neg h,if_neg h,ih]; rfl
 | a :: b :: l=>by
  show (if a=b then cmpD (b :: (l++[y,x])) else a :: cmpD (b :: (l++[y,x])))=(if a=b then cmpD (b :: (l++[y])) else a :: cmpD (b :: (l++[y])))++_
  have ih:=cmpD_snoc y x (b :: l)
  simp only [List.cons_append] at ih
  by_cases h:a=b
  ·rw [if_pos h,if_pos h,ih]
  ·rw [if_neg h,if_neg h,ih]; rfl
theorem cpt_take (l:List DV):∀ m,m<=l.length->compactUpTo l.toArray m=cmpD (l.take m)
 | 0,_=>rfl
 | 1,h=>by
  rw [compactUpTo_succ,keeps_lt_one _ 0 (by decide),if_pos rfl]
  have e:l.take 1=[l[0]'(by omega)]:=by rw [List.take_add_one,List.getElem?_eq_getElem (by omega)]; rfl
  rw [e,getElem!_pos l.toArray 0 (by simp; omega)]
  rfl
 | m+2,h=>by
  have ih:=cpt_take l (m+1) (by omega)
  have e1:l.take (m+1)=l.take m++[l[m]'(by omega)]:=by rw [List.take_add_one,List.getElem?_eq_getElem (by omega)]; rfl
  have e2:l.take (m+2)=l.take m++[l[m]'(by omega),l[m+1]'(by omega)]:=by
   rw [List.take_add_one,List.getElem?_eq_getElem (by omega),e1,List.append_assoc]; rfl
  rw [compactUpTo_succ,ih,e2,cmpD_snoc,e1]
  have g1:l.toArray[m+1]! = l[m+1]'(by omega):=by rw [getElem!_pos l.toArray (m+1) (by simp; omega)]; rfl
  have g0:l.toArray[m+1 - 1]! = l[m]'(by omega):=by rw [Nat.add_sub_cancel,getElem!_pos l.toArray m (by simp; omega)]; rfl
  by_cases h2:l[m]'(by omega)=l[m+1]'(by omega)
  ·rw [keeps_neg (by omega) (by rw [g1,g0,h2]),if_pos h2]; rfl
  ·rw [keeps_pos (by rw [g1,g0]; exact fun h=>h2 h.symm),if_neg h2,if_pos rfl,g1]
theorem cpt_all (l:List DV):compactUpTo l.toArray l.length=cmpD l:=by
 rw [cpt_take l _ (Nat.le_refl _),List.take_length]
theorem setMany_one (d:Array DV) {i:Nat} (hi:i < d.size) (x:DV):setMany (flatK encV 2 d) (i * 2) (encV x)=flatK encV 2 (d.setIfInBounds i x):=by
 refine ext_get! (by simp) fun t ht=>?_
 have ht':t < d.size * 2:=by simpa using ht
 rw [get_setMany _ _ _ t (by simpa using ht'),get_flatK _ _ _ t ht',get_flatK _ _ _ t (by simpa using ht')]
 show (if i * 2<=t/\t < i * 2+2 then _ else _)=_
 by_cases h:t / 2=i
 ·rw [if_pos ⟨by omega,by omega⟩]
  subst h
  rw [getElem!_set_same d _ x hi,show t - t / 2 * 2=t % 2 by omega]
 ·rw [if_neg (by omega),getElem!_set_other d i _ x h]
theorem setMany_zero (d:Array DV) {k:Nat} (hk:k<=d.size) (r:List DV) (hr:r.length=k) (hlow:∀ j,j < k->r[j]? = some d[j]!) :
  setMany (flatK encV 2 d) (k * 2) (List.replicate ((d.size - k) * 2) (.int .i64 0))=flatK encV 2 (r++List.replicate (d.size - k) (0,0)).toArray:=by
 have hsz:(r++List.replicate (d.size - k) ((0:Int),(0:Int))).toArray.size=d.size:=by simp [hr]; omega
 refine ext_get! (by rw [size_setMany,size_flatK,size_flatK,hsz]) fun t ht=>?_
 have ht':t < d.size * 2:=by simpa using ht
 rw [get_setMany _ _ _ t (by simpa using ht'),get_flatK _ _ _ t ht',get_flatK _ _ _ t (by rw [hsz]; exact ht'),List.length_replicate]
 by_cases h:t / 2 < k
 ·rw [if_neg (by omega)]
  have h1:=hlow _ h
  have h2:(r++List.replicate (d.size - k) ((0:Int),(0:Int))).toArray[t / 2]! = d[t / 2]!:=by
   rw [getElem!_pos _ _ (by rw [hsz]; omega)]
   rw [List.getElem_toArray,List.getElem_append_left (by omega)]
   rw [List.getElem?_eq_getElem (by omega)] at h1
   injection h1
  rw [h2]
 ·rw [if_pos ⟨by omega,by omega⟩]
  have h2:(r++List.replicate (d.size - k) ((0:Int),(0:Int))).toArray[t / 2]! = (0,0):=by
   rw [getElem!_pos _ _ (by rw [hsz]; omega)]
   rw [List.getElem_toArray,List.getElem_append_right (by omega),List.getElem_replicate]
  rw [h2,getElem!_pos _ _ (by simp; omega),List.getElem_replicate]
  have h3:t % 2=0\/t % 2=1:=by omega
  rcases h3 with h3|h3<;>rw [h3]<;>rfl
end Go.Proofs.YtpdiggaapdhffaaGreat.DW

namespace Go.Proofs.YtpdiggaapdhffaaGreat.DW
open Go.RowKit Go.Sort Go.Lib
theorem vecT:vecTy Tryz.prog 36=true:=by kernel_rfl
theorem run_clear_vec (w:World) (ty:TypeId) (b o n c:Nat) (hn:0 < n)
  (hc:∀ j,j < n * 2->(w.cell? ⟨b,o+j,none⟩).isSome=true) (hf:∀ j,j < n * 2->w.frozen? ⟨b,o+j,none⟩=false) :
  (Builtin.clear_ #[37] ty #[.slice (some ⟨b,o,none⟩) n c]).run Tryz.prog w=.ok (.tuple #[]) (w.setCells b o (List.replicate (n * 2) (.int .i64 0))):=by
 have hzc:(Builtin.zeroCells (Value.agg #[.int .i64 0,.int .i64 0]).cells n).toList=List.replicate (n * 2) (.int .i64 0):=by
  apply List.ext_getElem
  ·simp [Builtin.zeroCells,Value.cells]
  ·intro i h1 h2
   simp only [Builtin.zeroCells,Value.cells,Array.toList_map,Array.toList_range,List.getElem_map,List.getElem_range,List.getElem_replicate]
   have:i % 2=0\/i % 2=1:=by omega
   show (#[Value.int .i64 0,Value.int .i64 0])[i % 2]! = _
   rcases this with h|h<;>rw [h]<;>rfl
 have hst:=run_storeCells_cells (P:=Tryz.prog) b o (List.replicate (n * 2) (.int .i64 0)) 0 w (by simpa using hc) (by simpa using hf) (by intro v hv'; rw [List.eq_of_mem_replicate hv']; rfl)
 simp only [Nat.add_zero] at hst
 obtain ⟨m,rfl⟩:∃ m,n=m+1:=⟨n - 1,by omega⟩
 have hz:=Tryz.zeroValue36
 have hu:=Tryz.underlying37
 simp [Builtin.clear_,run_underlying hu,hz,hzc,hst]
theorem store_world_v {w wr:World} {n blk off:Nat} {dk:Array DV} {i:Nat} (hi:i < dk.size) (hwr:wr=putRowK encV 2 (Sort.ahead w n) blk off dk) (a b:Int) :
  ((wr.setCell ⟨blk,off+i * 2,none⟩ (.int .i64 a)).setCell ⟨blk,off+i * 2+1,none⟩ (.int .i64 b)).drew=putRowK encV 2 (Sort.ahead w (n+1)) blk off (dk.setIfInBounds i (a,b)):=by
 subst hwr
 have h:=setCells_putRow (Sort.ahead w n) blk off (encV (a,b)) (i * 2) (flatK encV 2 dk) (by rw [size_flatK]; show i * 2+2<=_; omega)
 rw [setMany_one dk hi (a,b)] at h
 have h2:((putRowK encV 2 (Sort.ahead w n) blk off dk).setCell ⟨blk,off+i * 2,none⟩ (.int .i64 a)).setCell ⟨blk,off+i * 2+1,none⟩ (.int .i64 b)=putRow id (Sort.ahead w n) blk off (flatK encV 2 (dk.setIfInBounds i (a,b))):=h
 rw [h2,putRow_drew,ahead_drew]
 rfl
set_option maxHeartbeats 4000000 in
theorem compact_any (blk off cap:Nat) (d:Array DV) (w:World) (hH:HoldsK encV 2 w blk off d) (hsz:d.size<=9223372036854775807) (hcap:d.size<=cap) :
  Calls Tryz.prog 128 #[.slice (some ⟨blk,off,none⟩) d.size cap] w fun e w'=>e=.returned (.slice (some ⟨blk,off,none⟩) (compactUpTo d d.size).length cap)/\∃ q,w'=putRowK encV 2 (Sort.ahead w q) blk off (compactUpTo d d.size++List.replicate (d.size - (compactUpTo d d.size).length) (0,0)).toArray:=by
 have heq':∀ (a b c d:Int) (w:World),Sem.run Tryz.prog (binOp .eql 36 (.agg #[.int .i64 a,.int .i64 b]) (.agg #[.int .i64 c,.int .i64 d])) w=.ok (.bool (decide (a=c) && decide (b=d))) w:=fun a b c d w=>by rw [run_eql_struct,vec_eq vecT]; rfl
 have hne':∀ (a b c d:Int) (w:World),Sem.run Tryz.prog (binOp .neq 36 (.agg #[.int .i64 a,.int .i64 b]) (.agg #[.int .i64 c,.int .i64 d])) w=.ok (.bool (!(decide (a=c) && decide (b=d)))) w:=fun a b c d w=>by rw [run_neq_struct,vec_eq vecT]; rfl
 have hgd':∀ (op:BinOp) (x y:Operand) (a b c d:Int) (w:World),Sem.run Tryz.prog (eqGuard op 36 x y (.agg #[.int .i64 a,.int .i64 b]) (.agg #[.int .i64 c,.int .i64 d])) w=.ok () w:=fun op x y a b c d w=>run_eqGuard_agg w op _ x y _ _ (vecTy_g vecT)
 have same:∀ q,(∀ j,j < d.size->keeps d j=true)->(compactUpTo d d.size).length=d.size/\w.drewN q=putRowK encV 2 (Sort.ahead w q) blk off (compactUpTo d d.size++List.replicate (d.size - (compactUpTo d d.size).length) (0,0)).toArray:=by
  intro q hall
  have e:compactUpTo d d.size=d.toList:=by rw [compactUpTo_all d _ hall,range_map_get]
  rw [e]
  refine ⟨by simp,?_⟩
  simp only [Array.length_toList,Nat.sub_self,List.replicate_zero,List.append_nil,Array.toArray_toList]
  exact (putRowK_self encV 2 (Sort.ahead w q) blk off d (holdsK_ahead encV 2 w q blk off d hH)).symm
 have HS:Aside (∀ q,(∀ j,j < d.size->keeps d j=true)->(compactUpTo d d.size).length=d.size/\w.drewN q=putRowK encV 2 (Sort.ahead w q) blk off (compactUpTo d d.size++List.replicate (d.size - (compactUpTo d d.size).length) (0,0)).toArray):=same
 clear same
 have mixed:Tryz.prog.follows .mixedOrders=true:=mixes
 have encat:∀ x:DV,(encV x)[0]! = .int .i64 x.1/\(encV x)[1]! = .int .i64 x.2:=fun x=>⟨rfl,rfl⟩
 by_cases h2:d.size < 2
 ·have HH:Aside (HoldsK encV 2 w blk off d):=hH
  clear hH
  go_enter Tryz.func128,Tryz.ntmps128
  go_wp2
  go_ret
  obtain ⟨e1,e2⟩:=HS.out 0 (fun j hj=>keeps_lt_one d j (by omega))
  exact ⟨by rw [e1]; rfl,0,e2⟩
 ·go_enter Tryz.func128,Tryz.ntmps128
  go_wp2
  go_loopg [3] d.size (fun g s3 wr=>∃ k q:Nat,1<=k/\k<=d.size/\d.size - k<=g/\s3=.int .i64 k/\wr=w.drewN q/\∀ j,j < k->keeps d j=true)
  case atStart=>exact ⟨1,0,Nat.le_refl _,by omega,by omega,rfl,rfl,keeps_lt_one d⟩
  case round =>
   obtain ⟨k,q,hk1,hk,hg,rfl,rfl,hall⟩:=hrel
   by_cases hlt:k < d.size
   ·obtain ⟨c1,f1⟩:=hH.cell hlt (c:=0) (by decide)
    obtain ⟨c1',f1'⟩:=hH.cell hlt (c:=1) (by decide)
    obtain ⟨c0,f0⟩:=hH.cell (i:=k - 1) (by omega) (c:=0) (by decide)
    obtain ⟨c0',f0'⟩:=hH.cell (i:=k - 1) (by omega) (c:=1) (by decide)
    rw [(encat _).1] at c1 c0
    rw [(encat _).2] at c1' c0'
    rw [Nat.add_zero] at c1 c0 f1 f0
    have A:Aside (∀ j,j < k->keeps d j=true):=hall
    have HH:Aside (HoldsK encV 2 w blk off d):=hH
    clear hall hH
    generalize hx:d[k]! = x at c1 c1'
    generalize hy:d[k - 1]! = y at c0 c0'
    have B:Aside (d[k]! = x/\d[k - 1]! = y):=⟨hx,hy⟩
    clear hx hy
    obtain ⟨x1,x2⟩:=x
    obtain ⟨y1,y2⟩:=y
    simp only at c1 c1' c0 c0'
    have hbe:(decide (x1=y1) && decide (x2=y2))=decide ((x1,x2)=(y1,y2)):=by
     by_cases e1:x1=y1<;>by_cases e2:x2=y2<;>simp [e1,e2]
    by_cases hdup:((x1,x2):DV)=(y1,y2)
    ·injection hdup with h1 h2'
     subst h1 h2'
     go_wp2_with fail
     go_region_o
     go_wp2
     clear c0 c1 c0' c1' f0 f1 f0' f1'
     go_loopg [3,5] d.size (fun g s3 s5 wr=>∃ (kk k2 q2:Nat) (dk:Array DV),s3=.int .i64 kk/\s5=.int .i64 k2/\1<=k2/\k+k2<=d.size/\d.size - (k+k2)<=g/\wr=putRowK encV 2 (Sort.ahead w q2) blk off dk/\CompInv d (k+k2) kk dk)
     case atStart=>exact ⟨k,1,q+1,d,rfl,rfl,Nat.le_refl _,by omega,by omega,(putRowK_self encV 2 (Sort.ahead w (q+1)) blk off d (holdsK_ahead encV 2 w (q+1) blk off d HH.out)).symm,CompInv.start A.out (keeps_neg (by omega) (by rw [B.out.1,B.out.2]))⟩
     case round =>
      obtain ⟨kk,k2,q2,dk,rfl,rfl,h1,hle,hg2,hwr,hI⟩:=hrel
      have hkk:=hI.lt
      have hds:=hI.size
      have hHk:HoldsK encV 2 wr blk off dk:=by rw [hwr]; exact holdsK_putRowK encV 2 _ blk off d dk (holdsK_ahead encV 2 w q2 blk off d HH.out) hds
      have W2:Aside (wr=putRowK encV 2 (Sort.ahead w q2) blk off dk):=hwr
      have I2:Aside (CompInv d (k+k2) kk dk):=hI
      clear hwr
      by_cases hlt2:k+k2 < d.size
      ·obtain ⟨cm,_⟩:=hHk.cell (i:=k+k2) (by omega) (c:=0) (by decide)
       obtain ⟨cm',_⟩:=hHk.cell (i:=k+k2) (by omega) (c:=1) (by decide)
       obtain ⟨cp,_⟩:=hHk.cell (i:=k+k2 - 1) (by omega) (c:=0) (by decide)
       obtain ⟨cp',_⟩:=hHk.cell (i:=k+k2 - 1) (by omega) (c:=1) (by decide)
       obtain ⟨ck,fk⟩:=hHk.cell (i:=kk) (by omega) (c:=0) (by decide)
       obtain ⟨ck',fk'⟩:=hHk.cell (i:=kk) (by omega) (c:=1) (by decide)
       rw [hI.high (k+k2) (by omega),(encat _).1,show off+(k+k2) * 2+0=off+k * 2+k2 * 2 by omega] at cm
       rw [hI.high (k+k2) (by omega),(encat _).2,show off+(k+k2) * 2+1=off+k * 2+k2 * 2+1 by omega] at cm'
       rw [hI.high (k+k2 - 1) (by omega),(encat _).1,show off+(k+k2 - 1) * 2+0=off+k * 2+(k2 - 1) * 2 by omega] at cp
       rw [hI.high (k+k2 - 1) (by omega),(encat _).2,show off+(k+k2 - 1) * 2+1=off+k * 2+(k2 - 1) * 2+1 by omega] at cp'
       rw [(encat _).1,Nat.add_zero] at ck
       rw [(encat _).2] at ck'
       rw [Nat.add_zero] at fk
       clear hHk hI
       generalize hu:d[k+k2]! = u at cm cm'
       generalize hv:d[k+k2 - 1]! = v at cp cp'
       generalize dk[kk]! = old at ck ck'
       have C:Aside (d[k+k2]! = u/\d[k+k2 - 1]! = v):=⟨hu,hv⟩
       clear hu hv
       obtain ⟨u1,u2⟩:=u
       obtain ⟨v1,v2⟩:=v
       obtain ⟨o1,o2⟩:=old
       simp only at cm cm' cp cp' ck ck'
       by_cases huv:((u1,u2):DV)=(v1,v2)
       ·injection huv with e1 e2
        subst e1 e2
        go_wp2_with fail
        go_region_o
        go_wp2
        go_roundg (d.size - (k+(k2+1)))
        case measure=>omega
        case rel=>exact ⟨kk,k2+1,q2+1,dk,rfl,by go_num,by omega,by omega,Nat.le_refl _,by rw [W2.out]; rfl,I2.out.skip (keeps_neg (by omega) (by rw [C.out.1,C.out.2]))⟩
       ·have huv2:¬ (u1=v1/\u2=v2):=fun h=>huv (by rw [h.1,h.2])
        have hbe2:(decide (u1=v1) && decide (u2=v2))=false:=by
         by_cases e1:u1=v1<;>by_cases e2:u2=v2<;>simp [e1,e2]<;>exact huv2 ⟨e1,e2⟩
        have HU:Aside (¬ ((u1,u2):DV)=(v1,v2)):=huv
        clear huv huv2
        go_wp2_with fail
        go_region_o
        go_wp2
        go_roundg (d.size - (k+(k2+1)))
        case measure=>omega
        case rel=>exact ⟨kk+1,k2+1,q2+1,dk.setIfInBounds kk (u1,u2),by go_num,by go_num,by omega,by omega,Nat.le_refl _,store_world_v (by omega) W2.out u1 u2,by have:=I2.out.keep hlt2 (keeps_pos (by rw [C.out.1,C.out.2]; exact HU.out)); rwa [C.out.1] at this⟩
      ·have hend:k+k2=d.size:=by omega
       have hcl:∀ ty,(Builtin.clear_ #[37] ty #[.slice (some ⟨blk,off+kk * 2,none⟩) (d.size - kk) (cap - kk)]).run Tryz.prog wr=.ok (.tuple #[]) (wr.setCells blk (off+kk * 2) (List.replicate ((d.size - kk) * 2) (.int .i64 0))) :=
        fun ty=>run_clear_vec wr ty blk (off+kk * 2) _ _ (by omega) (fun j hj=>by
         have h:=(hHk (kk * 2+j) (by simp [hds]; omega)).1
         rw [show off+kk * 2+j=off+(kk * 2+j) by omega,h]; rfl) (fun j hj=>by
         have h:=(hHk (kk * 2+j) (by simp [hds]; omega)).2
         rw [show off+kk * 2+j=off+(kk * 2+j) by omega]; exact h)
       clear hHk hI
       go_wp2
       go_ret
       have hI:=I2.out
       rw [hend] at hI
       refine ⟨by rw [hI.len]; rfl,q2,?_⟩
       have hz:=setMany_zero dk (k:=kk) (by omega) (compactUpTo d d.size) hI.len hI.low
       rw [hI.len,W2.out]
       unfold putRowK
       rw [setCells_putRow _ _ _ _ _ _ (by rw [size_flatK,List.length_replicate]; omega),show d.size - kk=dk.size - kk by rw [hds],hz]
    ·have hbe2:(decide (x1=y1) && decide (x2=y2))=false:=by rw [hbe]; exact decide_eq_false hdup
     have HD:Aside (¬ ((x1,x2):DV)=(y1,y2)):=hdup
     clear hdup hbe
     go_wp2_with fail
     go_region_o
     go_wp2
     go_roundg (d.size - (k+1))
     case measure=>omega
     case rel =>
      refine ⟨k+1,q+1,by omega,by omega,Nat.le_refl _,by go_num,rfl,fun j hj=>?_⟩
      by_cases e:j=k
      ·subst e
       exact keeps_pos (by rw [B.out.1,B.out.2]; exact HD.out)
      ·exact A.out j (by omega)
   ·have:k=d.size:=by omega
    subst this
    have HH:Aside (HoldsK encV 2 w blk off d):=hH
    clear hH
    go_wp2
    go_ret
    obtain ⟨e1,e2⟩:=HS.out q hall
    exact ⟨by rw [e1]; rfl,q,e2⟩
theorem compact_fn (l:List DV) (h0:0 < l.length) (hn:l.length<=1048576):FnR Tryz.prog 128 [] 36 tVec l (cmpD l) true:=by
 refine FnR.of (enters_of Tryz.func128 (by kernel_rfl) rfl) h0 true fun hI w g cap hg hc hcm hH=>?_
 have hcon:=compact_any g 0 cap l.toArray w hH (by simp; omega) (by simpa using hc)
 have hdl:l.toArray.size=l.length:=by simp
 rw [hdl,cpt_all] at hcon
 refine Calls.mono hcon ?_
 rintro e w' ⟨rfl,n,rfl⟩
 have hcl:=cmpD_len (l:=l)
 refine ⟨cmpD l++List.replicate (l.length - (cmpD l).length) (0,0),n,#[],rfl,(fun h=>by cases h),?_,fun x hx=>?_,?_,?_,?_⟩
 ·rw [List.length_append,List.length_replicate]; omega
 ·rcases List.mem_append.1 hx with h|h
  ·exact .inl (cmpD_mem.1 h)
  ·exact .inr (List.eq_of_mem_replicate h)
 ·rw [List.take_left']; rfl
 ·rw [List.length_append]; omega
 ·unfold sortWorldK
  rw [grow_empty]
theorem cloneV_fn (l:List DV) (h0:0 < l.length) (hn:l.length<=1048576):FnG Tryz.prog 125 [⟨.slice tVec,l⟩] 36 tVec l:=by
 refine fnG_enter tabOK mixes Tryz.func125 rfl rfl _ Tryz.ntmps125 _ Tryz.results125 (by simp) fun hwf=>?_
 try simp (maxSteps:=9^9) only[go_sem]
 refine NilW.non (by intro e; rw [e] at h0; simp at h0) ?_
 try simp (maxSteps:=9^9) only[go_sem]
 repeat refine AI ?_
 exact ⟨0,1,rfl,rfl⟩
theorem HullOf_fn (l:List DV) (hl:∀ v ∈ l,okV v=true) (h0:0 < l.length) (hn:l.length<=64):Fn Tryz.prog 123 [⟨.slice tVec,l⟩] true [⟨.slice tVec,hullD l⟩]:=by
 have c1:=areVecs_fn l
 rw [any_okV_f hl] at c1
 have d0:=decide_eq_false (p:=(l.length:Int) > 64) (by omega)
 have c2:=cloneV_fn l h0 (by omega)
 have c3:=sort_fn l hl h0 (by omega)
 have hml:(l.mergeSort leB).length=l.length:=List.length_mergeSort _
 have c4:=compact_fn (l.mergeSort leB) (by omega) (by omega)
 have hsl:=srtD_len l
 have hsm:∀ v ∈ srtD l,okV v=true:=fun v hv=>hl v (srtD_mem.1 hv)
 have hcs:cmpD (l.mergeSort leB)=srtD l:=rfl
 rw [hcs] at c4
 refine fe Tryz.func123 Tryz.ntmps123 Tryz.results123 fun hwf=>?_
 try simp (maxSteps:=9^9) only[go_sem,d0]
 repeat refine AI ?_
 refine cw c1 ?_
 try simp (maxSteps:=9^9) only[go_sem]
 repeat refine AI ?_
 refine CallW.g (c2) ?_
 try simp (maxSteps:=9^9) only[go_sem]
 repeat refine AI ?_
 refine CallW.r (k:=0) (ver:=0) (o:=true) (c3) ?_
 try simp (maxSteps:=9^9) only[go_sem]
 repeat refine AI ?_
 refine CallW.r (k:=0) (ver:=0) (o:=true) (c4) ?_
 try simp (maxSteps:=9^9) only[go_sem]
 refine CondW_dec (fun hA=>?_) (fun hA=>?_)
 ·have hh:hullD l=srtD l:=by unfold hullD; rw [if_pos (by omega)]
  rw [hh]
  try simp (maxSteps:=9^9) only[go_sem]
 ·have hh:hullD l=chD (srtD l)++chD (srtD l).reverse:=by unfold hullD; rw [if_neg (by omega)]
  rw [hh]
  generalize srtD l=s at hsl hsm hA ⊢
  have c5:=chain_fn s hsm (by omega) (by omega)
  have c6:=reverse_fn s (by omega) (by omega)
  have hrl:s.reverse.length=s.length:=List.length_reverse
  have c7:=chain_fn s.reverse (fun v hv=>hsm v (List.mem_reverse.1 hv)) (by omega) (by omega)
  have q1:=chR_len s
  have q2:=chR_len s.reverse
  have q3:(chD s).length<=s.length:=by unfold chD; rw [List.length_dropLast,List.length_reverse]; omega
  have q4:(chD s.reverse).length<=s.length:=by unfold chD; rw [List.length_dropLast,List.length_reverse]; omega
  try simp (maxSteps:=9^9) only[go_sem]
  repeat refine AI ?_
  refine CallW.g (c5) ?_
  try simp (maxSteps:=9^9) only[go_sem]
  repeat refine AI ?_
  refine CallW.r (k:=0) (ver:=1) (o:=true) (c6) ?_
  try simp (maxSteps:=9^9) only[go_sem]
  repeat refine AI ?_
  refine CallW.g (c7) ?_
  try simp (maxSteps:=9^9) only[go_sem]
  repeat refine AI ?_
  omega
def ratI (n:Int):DR:=(bigD n,[1])
attribute [go_sem] ratI
theorem l07Min_fn (a b:Int):Fn Tryz.prog 86 [⟨.int,a⟩,⟨.int,b⟩] false [⟨.int,min a b⟩]:=by
 refine fe Tryz.func86 Tryz.ntmps86 Tryz.results86 fun hwf=>?_
 try simp (maxSteps:=9^9) only[go_sem]
 refine CondW_dec (fun h=>?_) (fun h=>?_)
 ·try simp (maxSteps:=9^9) only[go_sem]
  omega
 ·try simp (maxSteps:=9^9) only[go_sem]
  omega
end Go.Proofs.YtpdiggaapdhffaaGreat.DW

namespace Go.Proofs.YtpdiggaapdhffaaGreat.DW
open Go.RowKit
end Go.Proofs.YtpdiggaapdhffaaGreat.DW

namespace Go.Proofs.YtpdiggaapdhffaaGreat.DW
open Go.RowKit
end Go.Proofs.YtpdiggaapdhffaaGreat.DW

namespace Go.Proofs.YtpdiggaapdhffaaGreat
open Go.RowKit
section
variable {o:Bool} {base:Nat} {w w':World} {e:TypeId} {v:Value} {l:List Int}
theorem GrowInt.row (h:Grow Rp.int o base w e v l):w.ownsRow base e 1 v l.length (l.map (Value.int .i64))/\∀ x ∈ l,I64 x:=by
 obtain ⟨xs,fps,ho,hl,he,_,_⟩:=h
 have hxl:xs.length=l.length:=by have:=ho.1; simpa [Rp.int] using this
 have hall:∀ (i:Nat) (x:Int),l[i]? = some x->xs[i]? = some (Value.int .i64 x)/\I64 x:=by
  intro i x hx
  obtain ⟨f,cs,_,hr,hc⟩:=he i x hx
  obtain ⟨rfl,_,hI⟩:=hr
  exact ⟨by simpa [Rp.int] using hc 0 _ rfl,hI⟩
 have hxs:xs=l.map (Value.int .i64):=by
  apply List.ext_getElem?
  intro i
  rw [List.getElem?_map]
  rcases Nat.lt_or_ge i l.length with hi|hi
  ·have:=(hall i l[i] (List.getElem?_eq_getElem hi)).1
   rw [this,List.getElem?_eq_getElem hi]; rfl
  ·rw [List.getElem?_eq_none (by omega),List.getElem?_eq_none hi]; rfl
 refine ⟨hxs ▸ ho,fun x hx=>?_⟩
 obtain ⟨i,hi,rfl⟩:=List.getElem_of_mem hx
 exact (hall i _ (List.getElem?_eq_getElem hi)).2
theorem flatten_nils (n:Nat):(List.replicate n ([]:List Nat)).flatten=[]:=by
 induction n with
 | zero=>rfl
 | succ n ih=>simp
theorem GrowInt.of (h:w.ownsRow base e 1 v l.length (l.map (Value.int .i64))) (hI:∀ x ∈ l,I64 x):Grow Rp.int o base w e v l:=by
 refine ⟨l.map (Value.int .i64),List.replicate l.length [],h,by simp,fun i x hx=>?_,fun b hb=>?_,fun _=>⟨?_,fun b hb=>?_⟩⟩
 ·have hi:=(List.getElem?_eq_some_iff.1 hx).1
  refine ⟨[],[.int .i64 x],by simp [hi],⟨rfl,rfl,hI x (List.mem_of_getElem? hx)⟩,fun j c hc=>?_⟩
  cases j with
  | zero=>simp at hc; subst hc; simp [Rp.int,hx]
  | succ j=>simp at hc
 ·rw [flatten_nils] at hb; cases hb
 ·rw [flatten_nils]; exact List.nodup_nil
 ·rw [flatten_nils] at hb; cases hb
end
section
variable {P:Program} (w:World)
end
theorem GrowInt.keep {o:Bool} {base:Nat} {w w':World} {e:TypeId} {v:Value} {l:List Int} (h:Grow Rp.int o base w e v l) {row:Option Nat} (hgr:w.grownBy w' row) (hne:∀ k,v.ownBlock=some k->some k ≠ row):Grow Rp.int o base w' e v l:=by
 obtain ⟨h1,h2⟩:=GrowInt.row h
 refine GrowInt.of (h1.kept hgr ?_) h2
 cases hv:v.ownBlock with
 | none=>exact .inl rfl
 | some k=>exact .inr (hne k hv)
end Go.Proofs.YtpdiggaapdhffaaGreat

namespace Go.Proofs.YtpdiggaapdhffaaGreat
open Go.RowKit
def New {α:Type} (A:Rp α) (base:Nat) (w:World) (cs:List Value) (a:α):Prop:=∃ fp,A.rep w cs a fp/\∀ b ∈ fp,base<=b
theorem Own.new {α:Type} {A:Rp α} {base:Nat} {w:World} {cs:List Value} {a:α} (h:Own A base w cs a):New A base w cs a:=let ⟨fp,hr,_,ho⟩:=h; ⟨fp,hr,fun b hb=>(ho b hb).1⟩
theorem New.has {α:Type} {A:Rp α} {base:Nat} {w:World} {cs:List Value} {a:α} (h:New A base w cs a):Has A w cs a:=let ⟨fp,hr,_⟩:=h; ⟨fp,hr⟩
theorem New.below {α:Type} {A:Rp α} {base:Nat} {w w':World} {cs:List Value} {a:α} (h:New A base w cs a) (hb:Below w.heap.size w w'):New A base w' cs a :=
 let ⟨fp,hr,ho⟩:=h; ⟨fp,A.frame hr fun b hb'=>hb.block b (A.lt hr b hb'),ho⟩
theorem New.mono {α:Type} {A:Rp α} {base base':Nat} {w:World} {cs:List Value} {a:α} (h:New A base w cs a) (hb:base'<=base):New A base' w cs a:=let ⟨fp,hr,ho⟩:=h; ⟨fp,hr,fun b hb'=>Nat.le_trans hb (ho b hb')⟩
theorem New.frame {α:Type} {A:Rp α} {base:Nat} {w w':World} {cs:List Value} {a:α} (h:New A base w cs a) (hf:∀ b,base<=b->b < w.heap.size->w'.heap[b]? = w.heap[b]?):New A base w' cs a :=
 let ⟨fp,hr,ho⟩:=h; ⟨fp,A.frame hr fun b hb'=>hf b (ho b hb') (A.lt hr b hb'),ho⟩
theorem New.setCell {α:Type} {A:Rp α} {base:Nat} {w:World} {cs:List Value} {a:α} (h:New A base w cs a) {p:Addr} (hp:p.block < base) (v:Value):New A base (w.setCell p v) cs a :=
 h.frame fun b h1 _=>Below.heap_setCell _ _ _ _ (by omega)
theorem New.pair {α β:Type} {A:Rp α} {B:Rp β} {base:Nat} {w:World} {a:α} {b:β} {cs1 cs2:List Value} (h1:New A base w cs1 a) (h2:New B base w cs2 b):New (Rp.prod A B) base w (cs1++cs2) (a,b) :=
 let ⟨f1,r1,o1⟩:=h1; let ⟨f2,r2,o2⟩:=h2; ⟨f1++f2,rep_pair r1 r2,fun b hb=>(List.mem_append.1 hb).elim (o1 b) (o2 b)⟩
theorem New.bool (base:Nat) (w:World) (b:Bool):New Rp.bool base w [.bool b] b:=⟨[],⟨rfl,rfl⟩,fun _ h=>by cases h⟩
theorem New.int (base:Nat) (w:World) {n:Int} (h:I64 n):New Rp.int base w [.int .i64 n] n:=⟨[],⟨rfl,rfl,h⟩,fun _ h=>by cases h⟩
theorem Has.pair {α β:Type} {A:Rp α} {B:Rp β} {w:World} {a:α} {b:β} {cs1 cs2:List Value} (h1:Has A w cs1 a) (h2:Has B w cs2 b):Has (Rp.prod A B) w (cs1++cs2) (a,b):=let ⟨f1,r1⟩:=h1; let ⟨f2,r2⟩:=h2; ⟨f1++f2,rep_pair r1 r2⟩
theorem Has.ofInt (w:World) {n:Int} (h:I64 n):Has Rp.int w [.int .i64 n] n:=⟨[],rfl,rfl,h⟩
end Go.Proofs.YtpdiggaapdhffaaGreat

namespace Go.Proofs.YtpdiggaapdhffaaGreat
open Go.RowKit DW
end Go.Proofs.YtpdiggaapdhffaaGreat

namespace Go.Proofs.YtpdiggaapdhffaaGreat.DW
open Go.RowKit
end Go.Proofs.YtpdiggaapdhffaaGreat.DW

namespace Go.Proofs.YtpdiggaapdhffaaGreat.DW
open Go.RowKit
def crs (u v:DV):Int:=u.1 * v.2 - u.2 * v.1
def dt (u v:DV):Int:=u.1 * v.1+u.2 * v.2
def sbV (a b:DV):DV:=(a.1 - b.1,a.2 - b.2)
def Rt (d:DV):Prop:=0 < d.1\/d.1=0/\0 < d.2
theorem Rt_of {a b:DV} (h:ltV a b):Rt (sbV b a):=by unfold ltV at h; unfold Rt sbV; simp only; omega
theorem crs_nn {u v w:DV} (hu:Rt u) (hv:Rt v) (hw:Rt w) (h1:0<=crs u v) (h2:0<=crs v w):0<=crs u w:=by
 have key:v.1 * crs u w=u.1 * crs v w+w.1 * crs u v:=by unfold crs; grind
 have u1:0<=u.1:=by unfold Rt at hu; omega
 have w1:0<=w.1:=by unfold Rt at hw; omega
 rcases hv with hv|⟨hv,hv2⟩
 ·by_cases hc:0<=crs u w
  ·exact hc
  ·have h3:=Int.mul_neg_of_pos_of_neg hv (show crs u w < 0 by omega)
   have h4:=Int.mul_nonneg u1 h2
   have h5:=Int.mul_nonneg w1 h1
   omega
 ·have e:crs v w=-(v.2 * w.1):=by unfold crs; rw [hv]; grind
  have hw0:w.1=0:=by
   by_cases hp:0 < w.1
   ·have:=Int.mul_pos hv2 hp
    omega
   ·omega
  have hw2:0 < w.2:=by unfold Rt at hw; omega
  have e2:crs u w=u.1 * w.2:=by unfold crs; rw [hw0]; grind
  rw [e2]
  exact Int.mul_nonneg u1 (Int.le_of_lt hw2)
theorem crs_sw (u v:DV):crs u v=- crs v u:=by unfold crs; grind
theorem crs_pn {u v w:DV} (hu:Rt u) (hv:Rt v) (hw:Rt w) (h1:0 < crs u v) (h2:0<=crs v w):0 < crs u w:=by
 have h3:=crs_nn hu hv hw (Int.le_of_lt h1) h2
 by_cases hc:crs u w=0
 ·have h4:=crs_nn hv hw hu h2 (by rw [crs_sw]; omega)
  rw [crs_sw] at h4
  omega
 ·omega
theorem crs_np {u v w:DV} (hu:Rt u) (hv:Rt v) (hw:Rt w) (h1:0<=crs u v) (h2:0 < crs v w):0 < crs u w:=by
 have h3:=crs_nn hu hv hw h1 (Int.le_of_lt h2)
 by_cases hc:crs u w=0
 ·have h4:=crs_nn hw hu hv (by rw [crs_sw]; omega) h1
  rw [crs_sw] at h4
  omega
 ·omega
theorem trn_crs (a b c:DV):trn a b c=crs (sbV b a) (sbV c a):=rfl
theorem trn_crs2 (a b c:DV):trn a b c=crs (sbV b a) (sbV c b):=by unfold trn crs sbV; grind
theorem trn_add (a b x y:DV):trn a b y=crs (sbV b a) (sbV y x)+trn a b x:=by unfold trn crs sbV; grind
theorem trn_aa (a b:DV):trn a b a=0:=by unfold trn; grind
theorem trn_bb (a b:DV):trn a b b=0:=by unfold trn; grind
def edg:List DV->List (DV × DV)
 | b :: a :: l=>(a,b) :: edg (a :: l)
 | _=>[]
def dir (e:DV × DV):DV:=sbV e.2 e.1
theorem edg_cons {v b:DV} {l:List DV}:edg (v :: b :: l)=(b,v) :: edg (b :: l):=rfl
theorem edg_mem:∀ {r:List DV} {e:DV × DV},e ∈ edg r->e.1 ∈ r/\e.2 ∈ r
 | [],e,h=>by simp [edg] at h
 | [a],e,h=>by simp [edg] at h
 | b :: a :: l,e,h=>by
  rw [edg_cons] at h
  rcases List.mem_cons.1 h with rfl|h
  ·exact ⟨by simp,by simp⟩
  ·obtain ⟨h1,h2⟩:=edg_mem h
   exact ⟨List.mem_cons_of_mem _ h1,List.mem_cons_of_mem _ h2⟩
structure ChOK (P:DV->Prop) (r:List DV):Prop where
 desc:r.Pairwise (fun x y=>ltV y x)
 cvx:(edg r).Pairwise (fun e f=>0 < crs (dir f) (dir e))
 low:∀ e ∈ edg r,∀ p,P p->0<=trn e.1 e.2 p
 str:∀ e ∈ edg r,∀ x ∈ r,x=e.1\/x=e.2\/0 < trn e.1 e.2 x
 sub:∀ x ∈ r,P x
theorem edg_lt:∀ {r:List DV} {e:DV × DV},r.Pairwise (fun x y=>ltV y x)->e ∈ edg r->ltV e.1 e.2
 | [],e,_,h=>by simp [edg] at h
 | [a],e,_,h=>by simp [edg] at h
 | b :: a :: l,e,hd,h=>by
  rw [edg_cons] at h
  rw [List.pairwise_cons] at hd
  rcases List.mem_cons.1 h with rfl|h
  ·exact hd.1 a (by simp)
  ·exact edg_lt hd.2 h
theorem ChOK.tail {P:DV->Prop} {b:DV} {l:List DV} (h:ChOK P (b :: l)):ChOK P l:=by
 have hd:=(List.pairwise_cons.1 h.desc).2
 cases l with
 | nil=>exact ⟨List.Pairwise.nil,List.Pairwise.nil,(fun e he=>by simp [edg] at he),(fun e he=>by simp [edg] at he),(fun x hx=>by simp at hx)⟩
 | cons a l =>
  have hc:=h.cvx
  rw [edg_cons] at hc
  exact ⟨hd,(List.pairwise_cons.1 hc).2,fun e he=>h.low e (by rw [edg_cons]; exact List.mem_cons_of_mem _ he),fun e he x hx=>h.str e (by rw [edg_cons]; exact List.mem_cons_of_mem _ he) x (List.mem_cons_of_mem _ hx),fun x hx=>h.sub x (List.mem_cons_of_mem _ hx)⟩
structure Popped (P:DV->Prop) (v:DV) (r:List DV) (b:DV) (l:List DV):Prop where
 ok:ChOK P (b :: l)
 last:∀ x,r.getLast? = some x->(b :: l).getLast? = some x
 stop:∀ a l',l=a :: l'->0 < trn a b v
 gone:(∃ l',r=b :: l')\/∃ c,ltV b c/\P c/\trn b c v<=0/\∀ p,P p->0<=trn b c p
theorem popD_ok {P:DV->Prop} {v:DV}:∀ {r:List DV} {b0:DV} {l0:List DV},r=b0 :: l0->ChOK P r->∃ b l,popD v r=b :: l/\Popped P v r b l
 | [],_,_,h,_=>by cases h
 | [a],_,_,_,hc=>⟨a,[],rfl,hc,fun x hx=>hx,(fun a l' h=>by cases h),.inl ⟨[],rfl⟩⟩
 | b :: a :: l,_,_,_,hc=>by
  by_cases ht:trn a b v<=0
  ·obtain ⟨b',l',e,hp⟩:=popD_ok (v:=v) (r:=a :: l) rfl hc.tail
   refine ⟨b',l',by rw [popD,if_pos ht]; exact e,hp.ok,fun x hx=>hp.last x (by rw [List.getLast?_cons_cons] at hx; exact hx),hp.stop,.inr ?_⟩
   rcases hp.gone with ⟨l2,h2⟩|h2
   ·injection h2 with h2 _
    subst h2
    exact ⟨b,(List.pairwise_cons.1 hc.desc).1 a (by simp),hc.sub b (by simp),ht,fun p hp=>hc.low (a,b) (by rw [edg_cons]; simp) p hp⟩
   ·exact h2
  ·exact ⟨b,a :: l,by rw [popD,if_neg ht],hc,fun x hx=>hx,(fun a' l' h=>by injection h with h _; subst h; omega),.inl ⟨a :: l,rfl⟩⟩
theorem push_ok {P:DV->Prop} {v b m:DV} {r l:List DV} (hp:Popped P v r b l) (hv:∀ p,P p->ltV p v) (hm:r.getLast? = some m) (hmin:∀ p,P p->p=m\/ltV m p) (htop:∀ t l',r=t :: l'->∀ p,P p->p=t\/ltV p t) :
  ChOK (fun p=>p=v\/P p) (v :: b :: l):=by
 have hb:P b:=hp.ok.sub b (by simp)
 have hbv:=hv b hb
 have rv:=Rt_of hbv
 have hml:=hp.last m hm
 have left:∀ p,P p->ltV p b->0 < trn b v p:=by
  intro p hP hlt
  cases l with
  | nil =>
   simp at hml
   subst hml
   rcases hmin p hP with rfl|h
   ·exact absurd hlt (ltV_irrefl _)
   ·exact absurd hlt (ltV_asymm h)
  | cons a l' =>
   have h1:=hp.stop a l' rfl
   have h2:=hp.ok.low (a,b) (by rw [edg_cons]; simp) p hP
   have hab:=(List.pairwise_cons.1 hp.ok.desc).1 a (by simp)
   rw [trn_crs2] at h1 h2
   have h3:0<=crs (sbV b p) (sbV b a):=by
    have:crs (sbV b p) (sbV b a)=crs (sbV b a) (sbV p b):=by unfold crs sbV; grind
    rw [this]; exact h2
   have h4:=crs_np (Rt_of hlt) (Rt_of hab) rv h3 h1
   have:trn b v p=crs (sbV b p) (sbV v b):=by unfold trn crs sbV; grind
   rw [this]; exact h4
 have all:∀ p,P p->0<=trn b v p:=by
  intro p hP
  rcases ltV_tri p b with h|h|h
  ·exact Int.le_of_lt (left p hP h)
  ·subst h; rw [trn_aa]; exact Int.le_refl _
  ·rcases hp.gone with ⟨l',hr⟩|⟨c,h1,h2,h3,h4⟩
   ·rcases htop b l' hr p hP with rfl|h5
    ·exact absurd h (ltV_irrefl _)
    ·exact absurd h (ltV_asymm h5)
   ·have h5:=h4 p hP
    rw [trn_crs] at h3 h5
    rw [trn_crs]
    exact crs_nn rv (Rt_of h1) (Rt_of h) (by rw [crs_sw]; omega) h5
 have bend:∀ f ∈ edg (b :: l),0 < crs (dir f) (sbV v b):=by
  intro f hf
  cases l with
  | nil=>simp [edg] at hf
  | cons a l' =>
   have h1:=hp.stop a l' rfl
   rw [trn_crs2] at h1
   have hab:=(List.pairwise_cons.1 hp.ok.desc).1 a (by simp)
   have hc:=hp.ok.cvx
   rw [edg_cons] at hc hf
   rcases List.mem_cons.1 hf with rfl|hf
   ·exact h1
   ·have h2:=(List.pairwise_cons.1 hc).1 f hf
    have h3:=edg_lt (List.pairwise_cons.1 hp.ok.desc).2 hf
    exact crs_pn (Rt_of h3) (Rt_of hab) rv h2 (Int.le_of_lt h1)
 have oldv:∀ f ∈ edg (b :: l),0 < trn f.1 f.2 v:=by
  intro f hf
  have h1:=bend f hf
  have h2:=hp.ok.low f hf b hb
  rw [trn_add f.1 f.2 b v]
  unfold dir at h1
  omega
 refine ⟨List.pairwise_cons.2 ⟨fun x hx=>hv x (hp.ok.sub x hx),hp.ok.desc⟩,?_,?_,?_,?_⟩
 ·rw [edg_cons]
  exact List.pairwise_cons.2 ⟨fun f hf=>bend f hf,hp.ok.cvx⟩
 ·intro e he p hP
  rw [edg_cons] at he
  rcases List.mem_cons.1 he with rfl|he2
  ·rcases hP with rfl|hP
   ·show 0<=trn b p p; rw [trn_bb]; exact Int.le_refl _
   ·exact all p hP
  ·rcases hP with rfl|hP
   ·exact Int.le_of_lt (oldv e he2)
   ·exact hp.ok.low e he2 p hP
 ·intro e he x hx
  rw [edg_cons] at he
  rcases List.mem_cons.1 he with rfl|he2
  ·rcases List.mem_cons.1 hx with rfl|hx
   ·exact .inr (.inl rfl)
   ·rcases List.mem_cons.1 hx with rfl|hx
    ·exact .inl rfl
    ·exact .inr (.inr (left x (hp.ok.sub x (List.mem_cons_of_mem _ hx)) ((List.pairwise_cons.1 hp.ok.desc).1 x hx)))
  ·rcases List.mem_cons.1 hx with rfl|hx
   ·exact .inr (.inr (oldv e he2))
   ·exact hp.ok.str e he2 x hx
 ·intro x hx
  rcases List.mem_cons.1 hx with rfl|hx
  ·exact .inl rfl
  ·exact .inr (hp.ok.sub x hx)
theorem chR_ok:∀ (n:Nat) {l:List DV},l.length=n+1->l.Pairwise ltV →
  ∃ t r,chR l=t :: r/\(chR l).getLast? = l.head?/\l.getLast? = some t/\ChOK (fun p=>p ∈ l) (chR l)
 | 0,l,hl,hs=>by
  match l,hl with
  | [a],_=>exact ⟨a,[],rfl,rfl,rfl,⟨List.pairwise_singleton _ _,List.Pairwise.nil,(fun e he=>by simp [chR,popD,edg] at he),(fun e he=>by simp [chR,popD,edg] at he),fun x hx=>hx⟩⟩
 | n+1,l,hl,hs=>by
  obtain ⟨l',v,rfl⟩:∃ l' v,l=l'++[v]:=⟨l.dropLast,l.getLast (by intro h; rw [h] at hl; simp at hl),(List.dropLast_concat_getLast _).symm⟩
  have hl':l'.length=n+1:=by simp at hl; omega
  rw [List.pairwise_append] at hs
  obtain ⟨hs1,_,hs3⟩:=hs
  obtain ⟨t,r,e1,e2,e3,hc⟩:=chR_ok n hl' hs1
  have hst:chR (l'++[v])=v :: popD v (chR l'):=by unfold chR; rw [List.foldl_append]; rfl
  obtain ⟨b,q,e4,hp⟩:=popD_ok (v:=v) e1 hc
  obtain ⟨m,l2,rfl⟩:∃ m l2,l'=m :: l2:=by
   cases l' with
   | nil=>simp at hl'
   | cons m l2=>exact ⟨m,l2,rfl⟩
  have hlast:(chR (m :: l2)).getLast? = some m:=e2
  have hpush:=push_ok hp (fun p hpm=>hs3 p hpm v (by simp)) hlast (fun p hpm=>by
   rcases List.mem_cons.1 hpm with h|h
   ·exact .inl h
   ·exact .inr ((List.pairwise_cons.1 hs1).1 p h)) (fun t' l3 ht p hpm=>by
   rw [e1] at ht
   injection ht with ht _
   subst ht
   have hgl:(m :: l2).getLast? = some t:=e3
   obtain ⟨ys,hys⟩:=List.getLast?_eq_some_iff.1 hgl
   rw [hys] at hpm hs1
   rw [List.pairwise_append] at hs1
   rcases List.mem_append.1 hpm with h|h
   ·exact .inr (hs1.2.2 p h t (by simp))
   ·exact .inl (by simpa using h))
  refine ⟨v,popD v (chR (m :: l2)),hst,?_,List.getLast?_concat,?_⟩
  ·rw [hst,e4,List.getLast?_cons_cons,hp.last m hlast]; rfl
  ·rw [hst,e4]
   refine ⟨hpush.desc,hpush.cvx,fun e he p hpm=>hpush.low e he p ?_,hpush.str,fun x hx=>?_⟩
   ·rcases List.mem_append.1 hpm with h|h
    ·exact .inr h
    ·exact .inl (by simpa using h)
   ·rcases hpush.sub x hx with rfl|h
    ·simp
    ·exact List.mem_append.2 (.inl h)
def ngV (v:DV):DV:=(-v.1,-v.2)
theorem ngV_ngV (v:DV):ngV (ngV v)=v:=by unfold ngV; simp
theorem trn_ng (a b c:DV):trn (ngV a) (ngV b) (ngV c)=trn a b c:=by unfold trn ngV; grind
theorem ltV_ng {a b:DV}:ltV (ngV a) (ngV b) ↔ ltV b a:=by unfold ltV ngV; simp only; omega
theorem popD_ng (v:DV):∀ r:List DV,popD (ngV v) (r.map ngV)=(popD v r).map ngV
 | []=>rfl
 | [a]=>rfl
 | b :: a :: l=>by
  have ih:=popD_ng v (a :: l)
  simp only [List.map_cons] at ih ⊢
  rw [popD,popD,trn_ng]
  split
  ·exact ih
  ·rfl
theorem chR_ng (l:List DV):chR (l.map ngV)=(chR l).map ngV:=by
 unfold chR
 have:∀ (l s:List DV),(l.map ngV).foldl (fun c v=>v :: popD v c) (s.map ngV)=(l.foldl (fun c v=>v :: popD v c) s).map ngV:=by
  intro l
  induction l with
  | nil=>intro s; rfl
  | cons a l ih =>
   intro s
   rw [List.map_cons,List.foldl_cons,List.foldl_cons,popD_ng]
   exact ih (a :: popD a s)
 exact this l []
def ngE (e:DV × DV):DV × DV:=(ngV e.1,ngV e.2)
theorem edg_ng:∀ r:List DV,edg (r.map ngV)=(edg r).map ngE
 | []=>rfl
 | [a]=>rfl
 | b :: a :: l=>by
  have ih:=edg_ng (a :: l)
  simp only [List.map_cons] at ih ⊢
  rw [edg_cons,edg_cons,ih]; rfl
theorem edg_ng_mem {r:List DV} {e:DV × DV} (h:e ∈ edg r):ngE e ∈ edg (r.map ngV):=by rw [edg_ng]; exact List.mem_map_of_mem h
theorem map_ng_ng (r:List DV):(r.map ngV).map ngV=r:=by
 rw [List.map_map,show (ngV ∘ ngV)=id from funext ngV_ngV,List.map_id]
theorem inner_of {P:DV->Prop} {x:DV}:∀ {r:List DV},ChOK P r->x ∈ r->r.head? = some x\/r.getLast? = some x\/∃ p q,(p,x) ∈ edg r/\(x,q) ∈ edg r/\0 < crs (sbV x p) (sbV q x)
 | [],_,h=>by simp at h
 | [a],_,h=>by simp at h; subst h; exact .inl rfl
 | q :: y :: l,hc,h=>by
  rcases List.mem_cons.1 h with rfl|h
  ·exact .inl rfl
  ·rcases inner_of hc.tail h with h1|h1|⟨p,q',h1,h2,h3⟩
   ·simp at h1
    subst h1
    cases l with
    | nil=>exact .inr (.inl rfl)
    | cons p l =>
     have hcv:=hc.cvx
     rw [edg_cons,edg_cons] at hcv
     refine .inr (.inr ⟨p,q,by rw [edg_cons,edg_cons]; simp,by rw [edg_cons]; simp,?_⟩)
     exact (List.pairwise_cons.1 hcv).1 (p,y) (by simp)
   ·exact .inr (.inl (by rw [List.getLast?_cons_cons]; exact h1))
   ·exact .inr (.inr ⟨p,q',by rw [edg_cons]; exact List.mem_cons_of_mem _ h1,by rw [edg_cons]; exact List.mem_cons_of_mem _ h2,h3⟩)
theorem cross_str {P:DV->Prop} {R R':List DV} (h:ChOK P R) (h':ChOK (fun p=>P (ngV p)) (R'.map ngV)) {x:DV} (hx:x ∈ R') :
  R'.head? = some x\/R'.getLast? = some x\/∀ e ∈ edg R,0 < trn e.1 e.2 x:=by
 have hx':ngV x ∈ R'.map ngV:=List.mem_map_of_mem hx
 have inj:∀ {a b:DV},ngV a=ngV b->a=b:=fun {a b} e=>by rw [<-ngV_ngV a,e,ngV_ngV]
 rcases inner_of h' hx' with h1|h1|⟨p,q,h1,h2,h3⟩
 ·rw [List.head?_map] at h1
  obtain ⟨a,ha,e⟩:=Option.map_eq_some_iff.1 h1
  exact .inl (by rw [ha,inj e])
 ·rw [List.getLast?_map] at h1
  obtain ⟨a,ha,e⟩:=Option.map_eq_some_iff.1 h1
  exact .inr (.inl (by rw [ha,inj e]))
 ·refine .inr (.inr fun e he=>?_)
  have hPp:P (ngV p):=h'.sub p (edg_mem h1).1
  have hPq:P (ngV q):=h'.sub q (edg_mem h2).2
  have hPx:P x:=by have:=h'.sub _ hx'; rw [ngV_ngV] at this; exact this
  have l1:=h.low e he _ hPp
  have l2:=h.low e he _ hPq
  have l3:=h.low e he _ hPx
  by_cases hz:trn e.1 e.2 x=0
  ·exfalso
   have hd:=Rt_of (edg_lt h.desc he)
   have ha:=Rt_of (edg_lt h'.desc h1)
   have hb:=Rt_of (edg_lt h'.desc h2)
   rw [trn_add e.1 e.2 x,hz] at l1 l2
   have e1:crs (sbV e.2 e.1) (sbV (ngV p) x)=crs (sbV e.2 e.1) (sbV (ngV x) p):=by unfold crs sbV ngV; grind
   have e2:crs (sbV e.2 e.1) (sbV (ngV q) x)=crs (sbV q (ngV x)) (sbV e.2 e.1):=by unfold crs sbV ngV; grind
   rw [e1] at l1
   rw [e2] at l2
   have:=crs_pn ha hb hd h3 (by show 0<=crs (sbV q (ngV x)) (sbV e.2 e.1); omega)
   rw [crs_sw] at this
   simp only at this
   omega
  ·omega
theorem edg_idx:∀ {r:List DV} {i:Nat},i+1 < r.length->(nth (t:=tVec) r (i+1),nth (t:=tVec) r i) ∈ edg r
 | [],i,h=>by simp at h
 | [a],i,h=>by simp at h
 | b :: a :: l,0,h=>by rw [edg_cons]; exact List.mem_cons_self
 | b :: a :: l,i+1,h=>by
  rw [edg_cons]
  refine List.mem_cons_of_mem _ ?_
  have:=edg_idx (r:=a :: l) (i:=i) (by simp at h ⊢; omega)
  simpa [nth] using this
theorem nth_rev {r:List DV} {i:Nat} (h:i < r.length):nth (t:=tVec) r.reverse i=nth (t:=tVec) r (r.length - 1 - i):=by
 rw [nth_lt (by rw [List.length_reverse]; exact h),nth_lt (by omega),List.getElem_reverse]
theorem nth_dl {r:List DV} {i:Nat} (h:i < r.length - 1):nth (t:=tVec) r.dropLast i=nth (t:=tVec) r i:=by
 rw [nth_lt (by rw [List.length_dropLast]; exact h),nth_lt (by omega),List.getElem_dropLast]
theorem nth_al {l m:List DV} {i:Nat} (h:i < l.length):nth (t:=tVec) (l++m) i=nth (t:=tVec) l i:=by
 rw [nth_lt (by rw [List.length_append]; omega),nth_lt h,List.getElem_append_left h]
theorem nth_ar {l m:List DV} {i:Nat} (h:l.length<=i) (h2:i < l.length+m.length):nth (t:=tVec) (l++m) i=nth (t:=tVec) m (i - l.length):=by
 rw [nth_lt (by rw [List.length_append]; omega),nth_lt (by omega),List.getElem_append_right h]
structure Cvx (P:DV->Prop) (H:List DV):Prop where
 three:3<=H.length
 nodup:H.Nodup
 str:∀ i,i < H.length->∀ x ∈ H,x=nth (t:=tVec) H i\/x=nth (t:=tVec) H (nxt H.length i).toNat\/0 < trn (nth (t:=tVec) H i) (nth (t:=tVec) H (nxt H.length i).toNat) x
 low:∀ i,i < H.length->∀ p,P p->0<=trn (nth (t:=tVec) H i) (nth (t:=tVec) H (nxt H.length i).toNat) p
 sub:∀ x ∈ H,P x
theorem nxt_lt {n i:Nat} (h:i+1 < n):(nxt n i).toNat=i+1:=by
 unfold nxt
 rw [Int.emod_eq_of_lt (by omega) (by omega)]; omega
theorem nxt_end {n i:Nat} (h:i+1=n):(nxt n i).toNat=0:=by
 unfold nxt
 rw [show ((i:Int)+1)=(n:Int) by omega,Int.emod_self]; rfl
theorem col0 {d u v:DV} (hd:d ≠ (0,0)) (h1:crs d u=0) (h2:crs d v=0):crs u v=0:=by
 have k1:d.1 * crs u v=u.1 * crs d v - v.1 * crs d u:=by unfold crs; grind
 have k2:d.2 * crs u v=u.2 * crs d v - v.2 * crs d u:=by unfold crs; grind
 rw [h1,h2,Int.mul_zero,Int.mul_zero,Int.sub_zero] at k1 k2
 rcases Int.mul_eq_zero.1 k1 with h|h
 ·rcases Int.mul_eq_zero.1 k2 with h'|h'
  ·exact absurd (Prod.ext h h') hd
  ·exact h'
 ·exact h
theorem nth_ap2 {l m:List DV} {x:DV} (k:Nat) (h:k=l.length):nth (t:=tVec) (l++x :: m) k=x:=by
 subst h
 rw [nth_lt (by simp),List.getElem_append_right (Nat.le_refl _)]
 simp
theorem nth_last {r:List DV} {x:DV} (h:r.getLast? = some x):nth (t:=tVec) r (r.length - 1)=x:=by
 obtain ⟨ys,rfl⟩:=List.getLast?_eq_some_iff.1 h
 rw [show (ys++[x]).length - 1=ys.length by simp]
 exact nth_ap2 _ rfl
theorem nth_head {r:List DV} {x:DV} (h:r.head? = some x):nth (t:=tVec) r 0=x:=by
 cases r with
 | nil=>simp at h
 | cons a r=>simp at h; exact h
theorem two_cvx {S R R':List DV} {m M:DV} (hm:m ∈ S) (hM:M ∈ S) (hmM:ltV m M) (hR:ChOK (fun p=>p ∈ S) R) (hR':ChOK (fun p=>ngV p ∈ S) (R'.map ngV)) (hh:R.head? = some M) (hl:R.getLast? = some m) (hh':R'.head? = some m) (hl':R'.getLast? = some M)
  (hn:∃ a ∈ S,∃ b ∈ S,∃ c ∈ S,trn a b c ≠ 0):Cvx (fun p=>p ∈ S) (R.reverse.dropLast++R'.reverse.dropLast):=by
 have inj:∀ {a b:DV},ngV a=ngV b->a=b:=fun {a b} e=>by rw [<-ngV_ngV a,e,ngV_ngV]
 have hne:m ≠ M:=fun h=>by subst h; exact ltV_irrefl _ hmM
 have k1:2<=R.length:=by
  match R,hh,hl with
  | [a],h1,h2=>simp at h1 h2; exact absurd (h2.symm.trans h1) hne
  | _ :: _ :: _,_,_=>simp
 have k2:2<=R'.length:=by
  match R',hh',hl' with
  | [a],h1,h2=>simp at h1 h2; exact absurd (h1.symm.trans h2) hne
  | _ :: _ :: _,_,_=>simp
 have mR:m ∈ R:=List.mem_of_getLast? hl
 have MR:M ∈ R:=List.mem_of_head? hh
 have mR':m ∈ R':=List.mem_of_head? hh'
 have MR':M ∈ R':=List.mem_of_getLast? hl'
 have hR2:ChOK (fun p=>ngV (ngV p) ∈ S) ((R.map ngV).map ngV):=by rw [map_ng_ng]; simpa [ngV_ngV] using hR
 have bnd:∀ e,(e ∈ edg R\/e ∈ edg R')->(∀ p ∈ S,0<=trn e.1 e.2 p)/\∀ x,(x ∈ R\/x ∈ R')->x=e.1\/x=e.2\/0 < trn e.1 e.2 x:=by
  rintro e (he|he)
  ·refine ⟨hR.low e he,fun x hx=>?_⟩
   rcases hx with hx|hx
   ·exact hR.str e he x hx
   ·rcases cross_str hR hR' hx with h|h|h
    ·rw [hh'] at h; injection h with h; subst h; exact hR.str e he m mR
    ·rw [hl'] at h; injection h with h; subst h; exact hR.str e he M MR
    ·exact .inr (.inr (h e he))
  ·have he':=edg_ng_mem he
   have key:∀ x,ngV x ∈ R'.map ngV->x=e.1\/x=e.2\/0 < trn e.1 e.2 x:=by
    intro x hx
    rcases hR'.str _ he' _ hx with h|h|h
    ·exact .inl (inj h)
    ·exact .inr (.inl (inj h))
    ·exact .inr (.inr (by rw [<-trn_ng]; exact h))
   refine ⟨fun p hp=>?_,fun x hx=>?_⟩
   ·have:=hR'.low _ he' (ngV p) (by rw [ngV_ngV]; exact hp)
    rw [<-trn_ng]; exact this
   ·rcases hx with hx|hx
    ·rcases cross_str hR' hR2 (List.mem_map_of_mem hx) with h|h|h
     ·rw [List.head?_map,hh] at h; injection h with h; rw [<-inj h]; exact key M (List.mem_map_of_mem MR')
     ·rw [List.getLast?_map,hl] at h; injection h with h; rw [<-inj h]; exact key m (List.mem_map_of_mem mR')
     ·exact .inr (.inr (by rw [<-trn_ng]; exact h _ he'))
    ·exact key x (List.mem_map_of_mem hx)
 have lL:R.reverse.length=R.length:=List.length_reverse
 have lU:R'.reverse.length=R'.length:=List.length_reverse
 have lLd:R.reverse.dropLast.length=R.length - 1:=by rw [List.length_dropLast,lL]
 have lUd:R'.reverse.dropLast.length=R'.length - 1:=by rw [List.length_dropLast,lU]
 have hH:(R.reverse.dropLast++R'.reverse.dropLast).length=(R.length - 1)+(R'.length - 1):=by rw [List.length_append,lLd,lUd]
 have iL:∀ i,i < R.length - 1->nth (t:=tVec) (R.reverse.dropLast++R'.reverse.dropLast) i=nth (t:=tVec) R (R.length - 1 - i):=fun i hi=>by
  rw [nth_al (by omega),nth_dl (by omega),nth_rev (by omega)]
 have iU:∀ j,j < R'.length - 1->nth (t:=tVec) (R.reverse.dropLast++R'.reverse.dropLast) (R.length - 1+j)=nth (t:=tVec) R' (R'.length - 1 - j):=fun j hj=>by
  rw [nth_ar (by omega) (by omega),lLd,show R.length - 1+j - (R.length - 1)=j by omega,nth_dl (by omega),nth_rev (by omega)]
 have r0:=nth_head hh
 have r1:=nth_last hl
 have s0:=nth_head hh'
 have s1:=nth_last hl'
 have iedg:∀ i,i < (R.length - 1)+(R'.length - 1)->(nth (t:=tVec) (R.reverse.dropLast++R'.reverse.dropLast) i,nth (t:=tVec) (R.reverse.dropLast++R'.reverse.dropLast) (nxt ((R.length - 1)+(R'.length - 1)) i).toNat) ∈ edg R\/(nth (t:=tVec) (R.reverse.dropLast++R'.reverse.dropLast) i,nth (t:=tVec) (R.reverse.dropLast++R'.reverse.dropLast) (nxt ((R.length - 1)+(R'.length - 1)) i).toNat) ∈ edg R':=by
  intro i hi
  by_cases h:i < R.length - 1
  ·left
   have e:=edg_idx (r:=R) (i:=R.length - 2 - i) (by omega)
   rw [nxt_lt (by omega),iL i h]
   have h2:nth (t:=tVec) (R.reverse.dropLast++R'.reverse.dropLast) (i+1)=nth (t:=tVec) R (R.length - 2 - i):=by
    by_cases h3:i+1 < R.length - 1
    ·rw [iL _ h3]; congr 1; omega
    ·rw [show i+1=R.length - 1+0 by omega,iU 0 (by omega),show R'.length - 1 - 0=R'.length - 1 by omega,s1,show R.length - 2 - i=0 by omega,r0]
   rw [h2,show R.length - 1 - i=R.length - 2 - i+1 by omega]
   exact e
  ·right
   obtain ⟨j,rfl⟩:∃ j,i=R.length - 1+j:=⟨i - (R.length - 1),by omega⟩
   have e:=edg_idx (r:=R') (i:=R'.length - 2 - j) (by omega)
   rw [iU j (by omega)]
   have h2:nth (t:=tVec) (R.reverse.dropLast++R'.reverse.dropLast) (nxt ((R.length - 1)+(R'.length - 1)) (R.length - 1+j)).toNat=nth (t:=tVec) R' (R'.length - 2 - j):=by
    by_cases h3:j+1 < R'.length - 1
    ·rw [nxt_lt (by omega),show R.length - 1+j+1=R.length - 1+(j+1) by omega,iU _ h3]; congr 1; omega
    ·rw [nxt_end (by omega),iL 0 (by omega),show R.length - 1 - 0=R.length - 1 by omega,r1,show R'.length - 2 - j=0 by omega,s0]
   rw [h2,show R'.length - 1 - j=R'.length - 2 - j+1 by omega]
   exact e
 have inH:∀ x,x ∈ R.reverse.dropLast++R'.reverse.dropLast->x ∈ R\/x ∈ R':=by
  intro x hx
  rcases List.mem_append.1 hx with h|h
  ·exact .inl (List.mem_reverse.1 (List.dropLast_subset _ h))
  ·exact .inr (List.mem_reverse.1 (List.dropLast_subset _ h))
 have subS:∀ x,(x ∈ R\/x ∈ R')->x ∈ S:=by
  rintro x (h|h)
  ·exact hR.sub x h
  ·have:=hR'.sub _ (List.mem_map_of_mem h); rw [ngV_ngV] at this; exact this
 have dL:R.reverse.Pairwise ltV:=List.pairwise_reverse.2 hR.desc
 have dU:R'.reverse.Pairwise (fun a b=>ltV b a):=by
  have:=hR'.desc
  rw [List.pairwise_map] at this
  exact List.pairwise_reverse.2 (this.imp fun {a b} h=>ltV_ng.1 h)
 have spL:R.reverse=R.reverse.dropLast++[M]:=by
  have:R.reverse.getLast? = some M:=by rw [List.getLast?_reverse]; exact hh
  obtain ⟨ys,hy⟩:=List.getLast?_eq_some_iff.1 this
  rw [hy]; simp
 have spU:R'.reverse=R'.reverse.dropLast++[m]:=by
  have:R'.reverse.getLast? = some m:=by rw [List.getLast?_reverse]; exact hh'
  obtain ⟨ys,hy⟩:=List.getLast?_eq_some_iff.1 this
  rw [hy]; simp
 have ltM:∀ x ∈ R.reverse.dropLast,ltV x M:=fun x hx=>by
  rw [spL] at dL
  exact (List.pairwise_append.1 dL).2.2 x hx M (by simp)
 have gtm:∀ x ∈ R'.reverse.dropLast,ltV m x:=fun x hx=>by
  rw [spU] at dU
  exact (List.pairwise_append.1 dU).2.2 x hx m (by simp)
 refine ⟨?_,?_,?_,?_,fun x hx=>subS x (inH x hx)⟩
 ·rw [hH]
  by_cases h:3<=R.length - 1+(R'.length - 1)
  ·exact h
  ·exfalso
   have h1:R.length=2:=by omega
   have h2:R'.length=2:=by omega
   have e1:=edg_idx (r:=R) (i:=0) (by omega)
   have e2:=edg_idx (r:=R') (i:=0) (by omega)
   rw [show 0+1=R.length - 1 by omega,r1,r0] at e1
   rw [show 0+1=R'.length - 1 by omega,s1,s0] at e2
   have z:∀ p ∈ S,crs (sbV M m) (sbV p m)=0:=fun p hp=>by
    have p1:=(bnd _ (.inl e1)).1 p hp
    have p2:=(bnd _ (.inr e2)).1 p hp
    have:trn M m p=- trn m M p:=by unfold trn; grind
    simp only at p1 p2
    rw [this] at p2
    rw [<-trn_crs]
    omega
   obtain ⟨a,ha,b,hb,c,hc,hne2⟩:=hn
   refine hne2 ?_
   rw [trn_crs]
   refine col0 (d:=sbV M m) (fun h=>?_) ?_ ?_
   ·have q1:=congrArg Prod.fst h
    have q2:=congrArg Prod.snd h
    unfold sbV at q1 q2
    simp only at q1 q2
    exact hne (Prod.ext (by omega) (by omega))
   ·have:crs (sbV M m) (sbV b a)=crs (sbV M m) (sbV b m) - crs (sbV M m) (sbV a m):=by unfold crs sbV; grind
    rw [this,z b hb,z a ha]; rfl
   ·have:crs (sbV M m) (sbV c a)=crs (sbV M m) (sbV c m) - crs (sbV M m) (sbV a m):=by unfold crs sbV; grind
    rw [this,z c hc,z a ha]; rfl
 ·rw [List.nodup_append]
  refine ⟨?_,?_,?_⟩
  ·exact (dL.sublist (List.dropLast_sublist _)).imp fun {a b} h e=>by subst e; exact ltV_irrefl _ h
  ·exact (dU.sublist (List.dropLast_sublist _)).imp fun {a b} h e=>by subst e; exact ltV_irrefl _ h
  ·rintro x hx y hy rfl
   have q1:=ltM x hx
   have q2:=gtm x hy
   have hxR':x ∈ R':=List.mem_reverse.1 (List.dropLast_subset _ hy)
   rcases cross_str hR hR' hxR' with h|h|h
   ·rw [hh'] at h; injection h with h; subst h; exact ltV_irrefl _ q2
   ·rw [hl'] at h; injection h with h; subst h; exact ltV_irrefl _ q1
   ·obtain ⟨i,hi,rfl⟩:=List.getElem_of_mem hx
    have hi2:i < R.length - 1:=by omega
    have e:=edg_idx (r:=R) (i:=R.length - 2 - i) (by omega)
    have e2:R.reverse.dropLast[i]=nth (t:=tVec) R (R.length - 2 - i+1):=by
     rw [<-nth_lt (t:=tVec) hi,nth_dl (by omega),nth_rev (by omega)]; congr 1; omega
    have:=h _ e
    rw [e2] at this
    simp only at this
    rw [trn_aa] at this
    omega
 ·intro i hi x hx
  rw [hH] at hi ⊢
  exact (bnd _ (iedg i hi)).2 x (inH x hx)
 ·intro i hi p hp
  rw [hH] at hi ⊢
  exact (bnd _ (iedg i hi)).1 p hp
theorem hull_cvx {S:List DV} (hs:S.Pairwise ltV) (hn:∃ a ∈ S,∃ b ∈ S,∃ c ∈ S,trn a b c ≠ 0):Cvx (fun p=>p ∈ S) (chD S++chD S.reverse):=by
 have hn':=hn
 obtain ⟨a,ha,b,hb,c,hc,hne⟩:=hn'
 obtain ⟨n,hnl⟩:∃ n,S.length=n+1:=⟨S.length - 1,by have:=List.length_pos_of_mem ha; omega⟩
 obtain ⟨t,r,e1,e2,e3,hR⟩:=chR_ok n hnl hs
 have hsr:(S.reverse.map ngV).Pairwise ltV:=by
  rw [List.pairwise_map,List.pairwise_reverse]
  exact hs.imp fun {a b} h=>ltV_ng.2 h
 obtain ⟨t',r',f1,f2,f3,hR0⟩:=chR_ok n (l:=S.reverse.map ngV) (by rw [List.length_map,List.length_reverse]; exact hnl) hsr
 rw [chR_ng] at f1 f2 hR0
 have hR':ChOK (fun p=>(ngV p) ∈ S) ((chR S.reverse).map ngV):=by
  refine ⟨hR0.desc,hR0.cvx,fun e he p hp=>hR0.low e he p ?_,hR0.str,fun x hx=>?_⟩
  ·rw [show p=ngV (ngV p) from (ngV_ngV p).symm]
   exact List.mem_map_of_mem (List.mem_reverse.2 hp)
  ·obtain ⟨y,hy,rfl⟩:=List.mem_map.1 (hR0.sub x hx)
   rw [ngV_ngV]
   exact List.mem_reverse.1 hy
 have injO:∀ {a b:Option DV},a.map ngV=b.map ngV->a=b:=by
  intro a b h
  have:=congrArg (Option.map ngV) h
  simpa [Option.map_map,show (ngV ∘ ngV)=id from funext ngV_ngV] using this
 have g2:(chR S.reverse).getLast? = S.getLast?:=by
  rw [List.getLast?_map,List.head?_map] at f2
  rw [injO f2,List.head?_reverse]
 have g3:(chR S.reverse).head? = S.head?:=by
  have h1:((chR S.reverse).map ngV).head? = some t':=by rw [f1]; rfl
  rw [<-f3,List.head?_map,List.getLast?_map,List.getLast?_reverse] at h1
  exact injO h1
 have g1:(chR S).head? = S.getLast?:=by rw [e1,e3]; rfl
 obtain ⟨m,S',rfl⟩:∃ m S',S=m :: S':=by
  cases S with
  | nil=>simp at ha
  | cons m S'=>exact ⟨m,S',rfl⟩
 obtain ⟨M,hM1,hM2⟩:∃ M,(m :: S').getLast? = some M/\M ∈ S':=by
  cases S' with
  | nil =>
   simp at ha hb hc
   subst ha hb hc
   exact absurd (trn_aa _ _) hne
  | cons x S'=>exact ⟨(x :: S').getLast (by simp),by rw [List.getLast?_cons_cons,List.getLast?_eq_some_getLast],List.getLast_mem _⟩
 exact two_cvx (m:=m) (M:=M) (by simp) (List.mem_cons_of_mem _ hM2) ((List.pairwise_cons.1 hs).1 M hM2) hR hR' (g1.trans hM1) e2 g3 (g2.trans hM1) hn
theorem len_le_of_lt:∀ (N:Nat) (l:List Nat),l.Nodup->(∀ x ∈ l,x < N)->l.length<=N
 | 0,l,_,h=>by
  cases l with
  | nil=>simp
  | cons a l=>exact absurd (h a (by simp)) (by omega)
 | N+1,l,hd,h=>by
  by_cases hm:N ∈ l
  ·have h1:=List.length_erase_of_mem hm
   have h2:=len_le_of_lt N (l.erase N) (hd.erase N) fun x hx=>by
    have h3:=h x (List.mem_of_mem_erase hx)
    have h4:x ≠ N:=fun e=>by subst e; exact hd.not_mem_erase hx
    omega
   omega
  ·have:=len_le_of_lt N l hd fun x hx=>by
    have h3:=h x hx
    have h4:x ≠ N:=fun e=>by subst e; exact hm hx
    omega
   omega
theorem pigeon {n N:Nat} {R:Nat->Nat->Prop} (h:∀ i,i < n->∃ c,c < N/\R i c) (inj:∀ i j c,i < n->j < n->R i c->R j c->i=j):n<=N:=by
 have hf:∃ f:Nat->Nat,∀ i,i < n->f i < N/\R i (f i):=by
  refine ⟨fun i=>if hi:i < n then Classical.choose (h i hi) else 0,fun i hi=>?_⟩
  simp only [hi,dif_pos]
  exact Classical.choose_spec (h i hi)
 obtain ⟨f,hf⟩:=hf
 have h1:=len_le_of_lt N ((List.range n).map f) (by
  rw [List.nodup_iff_pairwise_ne,List.pairwise_map]
  have hr:(List.range n).Pairwise (fun a b=>a < b):=List.pairwise_lt_range
  refine (List.pairwise_iff_getElem.2 fun i j hi hj hij=>?_)
  simp only [List.length_range] at hi hj
  simp only [List.getElem_range]
  intro e
  have:=inj i j (f i) hi hj (hf i hi).2 (by rw [e]; exact (hf j hj).2)
  omega) (by
  intro x hx
  obtain ⟨i,hi,rfl⟩:=List.mem_map.1 hx
  exact (hf i (List.mem_range.1 hi)).1)
 simpa using h1
theorem sq_nn (a:Int):0<=a * a:=by
 rcases Int.le_total 0 a with h|h
 ·exact Int.mul_nonneg h h
 ·exact Int.mul_nonneg_of_nonpos_of_nonpos h h
theorem nd_inj {l:List DV} (h:l.Nodup) {i j:Nat} (hi:i < l.length) (hj:j < l.length) (e:l[i]=l[j]):i=j:=by
 rw [List.nodup_iff_pairwise_ne] at h
 rcases Nat.lt_trichotomy i j with h1|h1|h1
 ·exact absurd e (List.pairwise_iff_getElem.1 h i j hi hj h1)
 ·exact h1
 ·exact absurd e.symm (List.pairwise_iff_getElem.1 h j i hj hi h1)
theorem sb_ne {a b:DV} (h:a ≠ b):sbV a b ≠ (0,0):=by
 intro e
 unfold sbV at e
 have q1:=congrArg Prod.fst e
 have q2:=congrArg Prod.snd e
 simp only at q1 q2
 exact h (Prod.ext (by omega) (by omega))
theorem dt_pos {d:DV} (h:d ≠ (0,0)):0 < dt d d:=by
 unfold dt
 have h1:=sq_nn d.1
 have h2:=sq_nn d.2
 by_cases e1:d.1=0
 ·by_cases e2:d.2=0
  ·exact absurd (Prod.ext e1 e2) h
  ·have:d.2 * d.2 ≠ 0:=fun h=>(Int.mul_eq_zero.1 h).elim e2 e2
   omega
 ·have:d.1 * d.1 ≠ 0:=fun h=>(Int.mul_eq_zero.1 h).elim e1 e1
  omega
theorem pos_of_mul {a b c:Int} (h:a * b=c) (hb:0 < b) (hc:0<=c):0<=a:=by
 by_cases ha:0<=a
 ·exact ha
 ·have:=Int.mul_neg_of_neg_of_pos (show a < 0 by omega) hb
  omega
theorem pos_of_mul' {a b c:Int} (h:a * b=c) (hb:0 < b) (hc:0 < c):0 < a:=by
 have:=pos_of_mul h hb (Int.le_of_lt hc)
 by_cases ha:a=0
 ·subst ha; omega
 ·omega
theorem same_dir {d E c:DV} (hd:d ≠ (0,0)) (h0:crs d E=0) (h1:0 < crs E c) (h2:0<=crs d c):0 < dt d E:=by
 have hE:E ≠ (0,0):=fun h=>by subst h; unfold crs at h1; simp at h1
 have k:dt d E * crs E c=crs d c * dt E E - crs d E * dt E c:=by unfold dt crs; grind
 rw [h0,Int.zero_mul,Int.sub_zero] at k
 have n1:=pos_of_mul k h1 (Int.mul_nonneg h2 (Int.le_of_lt (dt_pos hE)))
 have k2:dt d E * dt d E+crs d E * crs d E=dt d d * dt E E:=by unfold dt crs; grind
 rw [h0,Int.mul_zero,Int.add_zero] at k2
 have n2:=Int.mul_pos (dt_pos hd) (dt_pos hE)
 by_cases hz:dt d E=0
 ·rw [hz,Int.mul_zero] at k2; omega
 ·omega
theorem nxt_cases {n i:Nat} (hi:i < n):(nxt n i).toNat=(if i+1 < n then i+1 else 0):=by
 split
 ·exact nxt_lt (by assumption)
 ·exact nxt_end (by omega)
theorem prev_of {n i:Nat} (hi:i < n):∃ h,h < n/\(nxt n h).toNat=i:=by
 by_cases h0:i=0
 ·exact ⟨n - 1,by omega,by rw [nxt_end (by omega),h0]⟩
 ·exact ⟨i - 1,by omega,by rw [nxt_lt (by omega)]; omega⟩
theorem corn {l:List DV} (h:polyP l) {i k:Nat} (hi:i < l.length) (hk:k < l.length) (h1:k ≠ i) (h2:k ≠ (nxt l.length i).toNat):0 < trn (nth (t:=tVec) l i) (nth (t:=tVec) l (nxt l.length i).toNat) (nth (t:=tVec) l k) :=
 h.2.2 i k hi hk (by omega) (by have:=nxt_rng (n:=l.length) (i:=i) (by omega); omega)
theorem third (n i j:Nat) (hn:3<=n):∃ k,k < n/\k ≠ i/\k ≠ j:=by
 by_cases h0:i ≠ 0/\j ≠ 0
 ·exact ⟨0,by omega,by omega,by omega⟩
 ·by_cases h1:i ≠ 1/\j ≠ 1
  ·exact ⟨1,by omega,by omega,by omega⟩
  ·exact ⟨2,by omega,by omega,by omega⟩
def edgV (l:List DV) (t:Nat):DV:=sbV (nth (t:=tVec) l (nxt l.length t).toNat) (nth (t:=tVec) l t)
theorem supp_edge {l:List DV} (h:polyP l) {d:DV} (hd:d ≠ (0,0)) {i j:Nat} (hi:i < l.length) (hj:j < l.length) (hne:nth (t:=tVec) l i ≠ nth (t:=tVec) l j) (hall:∀ x ∈ l,0<=crs d (sbV x (nth (t:=tVec) l i)))
  (hz:crs d (sbV (nth (t:=tVec) l j) (nth (t:=tVec) l i))=0):∃ t,t < l.length/\crs d (edgV l t)=0/\0 < dt d (edgV l t):=by
 have h3:3<=l.length:=by have:=h.1.1; omega
 have hij:i ≠ j:=fun e=>hne (by rw [e])
 by_cases c1:j=(nxt l.length i).toNat
 ·obtain ⟨k,hk,hk1,hk2⟩:=third l.length i j h3
  have ht:=corn h hi hk hk1 (by rw [<-c1]; exact hk2)
  have he:edgV l i=sbV (nth (t:=tVec) l j) (nth (t:=tVec) l i):=by unfold edgV; rw [<-c1]
  refine ⟨i,hi,by rw [he]; exact hz,?_⟩
  rw [he]
  rw [trn_crs,<-c1] at ht
  exact same_dir hd hz ht (hall _ (nth_mem hk))
 ·by_cases c2:i=(nxt l.length j).toNat
  ·obtain ⟨k,hk,hk1,hk2⟩:=third l.length i j h3
   have ht:=corn h hj hk hk2 (by rw [<-c2]; exact hk1)
   have he:edgV l j=sbV (nth (t:=tVec) l i) (nth (t:=tVec) l j):=by unfold edgV; rw [<-c2]
   have hz':crs d (sbV (nth (t:=tVec) l i) (nth (t:=tVec) l j))=0:=by
    have:crs d (sbV (nth (t:=tVec) l i) (nth (t:=tVec) l j))=- crs d (sbV (nth (t:=tVec) l j) (nth (t:=tVec) l i)):=by unfold crs sbV; grind
    rw [this,hz]; rfl
   refine ⟨j,hj,by rw [he]; exact hz',?_⟩
   rw [he]
   rw [trn_crs,<-c2] at ht
   refine same_dir hd hz' ht ?_
   have h4:=hall _ (nth_mem hk)
   have:crs d (sbV (nth (t:=tVec) l k) (nth (t:=tVec) l j))=crs d (sbV (nth (t:=tVec) l k) (nth (t:=tVec) l i)) - crs d (sbV (nth (t:=tVec) l j) (nth (t:=tVec) l i)):=by unfold crs sbV; grind
   omega
  ·exfalso
   obtain ⟨g,hg,hgi⟩:=prev_of hi
   have hr:=nxt_rng (n:=l.length) (i:=i) (by omega)
   have hn:(nxt l.length i).toNat < l.length:=by omega
   have t1:=corn h hi hj (Ne.symm hij) c1
   have t2:=corn h hg hj (fun e=>c2 (by rw [e]; exact hgi.symm)) (by rw [hgi]; exact Ne.symm hij)
   rw [hgi] at t2
   have a1:=hall _ (nth_mem hn)
   have a2:=hall _ (nth_mem hg)
   generalize nth (t:=tVec) l i=p at *
   generalize nth (t:=tVec) l j=q at *
   generalize nth (t:=tVec) l (nxt l.length i).toNat=s at *
   generalize nth (t:=tVec) l g=u at *
   have k1:trn p s q * dt d d=- (crs d (sbV s p) * dt d (sbV q p))+dt (sbV s p) d * crs d (sbV q p):=by unfold trn dt crs sbV; grind
   have k2:trn u p q * dt d d=crs d (sbV u p) * dt d (sbV q p) - crs d (sbV q p) * dt d (sbV u p):=by unfold trn dt crs sbV; grind
   rw [hz,Int.mul_zero,Int.add_zero] at k1
   rw [hz,Int.zero_mul,Int.sub_zero] at k2
   have m1:=Int.mul_pos t1 (dt_pos hd)
   have m2:=Int.mul_pos t2 (dt_pos hd)
   have n1:dt d (sbV q p) < 0:=by
    by_cases hq:dt d (sbV q p) < 0
    ·exact hq
    ·have:=Int.mul_nonneg a1 (show 0<=dt d (sbV q p) by omega)
     omega
   have n2:0 < dt d (sbV q p):=by
    by_cases hq:0 < dt d (sbV q p)
    ·exact hq
    ·have:=Int.mul_nonneg a2 (show 0<=- dt d (sbV q p) by omega)
     rw [Int.mul_neg] at this
     omega
   omega
def smV (a b:List DV):List DV:=a.flatMap fun p=>b.map (addV p)
theorem smV_mem {a b:List DV} {x:DV}:x ∈ smV a b ↔ ∃ p ∈ a,∃ q ∈ b,addV p q=x:=by
 unfold smV
 simp only [List.mem_flatMap,List.mem_map]
theorem dir_inj {P:DV->Prop} {H:List DV} (hH:Cvx P H) {i j:Nat} (hi:i < H.length) (hj:j < H.length) {E:DV} (h1:crs (edgV H i) E=0) (h2:0 < dt (edgV H i) E) (h3:crs (edgV H j) E=0) (h4:0 < dt (edgV H j) E):i=j:=by
 have hE:0 < dt E E:=dt_pos fun h=>by subst h; unfold dt at h2; simp at h2
 have k1:crs (edgV H i) (edgV H j) * dt E E=crs (edgV H i) E * dt E (edgV H j) - crs (edgV H j) E * dt E (edgV H i):=by unfold dt crs; grind
 rw [h1,h3,Int.zero_mul,Int.zero_mul,Int.sub_zero] at k1
 have z:crs (edgV H i) (edgV H j)=0:=by
  rcases Int.mul_eq_zero.1 k1 with h|h
  ·exact h
  ·omega
 have k2:dt (edgV H i) (edgV H j) * dt E E=dt (edgV H i) E * dt (edgV H j) E+crs (edgV H i) E * crs (edgV H j) E:=by unfold dt crs; grind
 rw [h1,Int.zero_mul,Int.add_zero] at k2
 have p:=pos_of_mul' k2 hE (Int.mul_pos h2 h4)
 by_cases hij:i=j
 ·exact hij
 ·exfalso
  have ri:=nxt_rng (n:=H.length) (i:=i) (by omega)
  have rj:=nxt_rng (n:=H.length) (i:=j) (by omega)
  have mi:nth (t:=tVec) H i ∈ H:=nth_mem hi
  have mj:nth (t:=tVec) H j ∈ H:=nth_mem hj
  have ndI:nth (t:=tVec) H i ≠ nth (t:=tVec) H j:=by
   rw [nth_lt hi,nth_lt hj]
   intro e
   exact hij (nd_inj hH.nodup _ _ e)
  have l1:=hH.low i hi _ (hH.sub _ mj)
  have l2:=hH.low j hj _ (hH.sub _ mi)
  have s1:=hH.str i hi _ mj
  have s2:=hH.str j hj _ mi
  unfold edgV at z p h1 h2 h3 h4
  have dd1:0 < dt (sbV (nth (t:=tVec) H (nxt H.length i).toNat) (nth (t:=tVec) H i)) (sbV (nth (t:=tVec) H (nxt H.length i).toNat) (nth (t:=tVec) H i)):=dt_pos fun h=>by rw [h] at h2; unfold dt at h2; simp at h2
  generalize nth (t:=tVec) H i=a at *
  generalize nth (t:=tVec) H j=b at *
  generalize nth (t:=tVec) H (nxt H.length i).toNat=a' at *
  generalize nth (t:=tVec) H (nxt H.length j).toNat=b' at *
  rw [trn_crs] at l1 l2
  have k3:crs (sbV b' b) (sbV a b) * dt (sbV a' a) (sbV a' a)=- (crs (sbV a' a) (sbV b a) * dt (sbV a' a) (sbV b' b)) - crs (sbV a' a) (sbV b' b) * dt (sbV a' a) (sbV a b):=by unfold dt crs sbV; grind
  rw [z,Int.zero_mul,Int.sub_zero] at k3
  have q1:=Int.mul_nonneg l2 (Int.le_of_lt dd1)
  have q2:=Int.mul_nonneg l1 (Int.le_of_lt p)
  have q3:crs (sbV a' a) (sbV b a) * dt (sbV a' a) (sbV b' b)=0:=by omega
  have q4:crs (sbV a' a) (sbV b a)=0:=by
   rcases Int.mul_eq_zero.1 q3 with h|h
   ·exact h
   ·omega
  have q5:crs (sbV b' b) (sbV a b)=0:=by
   have:crs (sbV b' b) (sbV a b) * dt (sbV a' a) (sbV a' a)=0:=by rw [k3,q3]; rfl
   rcases Int.mul_eq_zero.1 this with h|h
   ·exact h
   ·omega
  rw [trn_crs] at s1 s2
  rcases s1 with h|h|h
  ·exact ndI h.symm
  ·rcases s2 with h'|h'|h'
   ·exact ndI h'
   ·subst h h'
    have:dt (sbV b a) (sbV a b)=- dt (sbV b a) (sbV b a):=by unfold dt sbV; grind
    omega
   ·omega
  ·omega
theorem mink_le {a b H:List DV} (ha:polyP a) (hb:polyP b) (hH:Cvx (fun p=>p ∈ smV a b) H):H.length<=a.length+b.length:=by
 refine pigeon (R:=fun i c=>(c < a.length/\crs (edgV H i) (edgV a c)=0/\0 < dt (edgV H i) (edgV a c))\/(a.length<=c/\crs (edgV H i) (edgV b (c - a.length))=0/\0 < dt (edgV H i) (edgV b (c - a.length)))) ?_ ?_
 ·intro i hi
  have ri:=nxt_rng (n:=H.length) (i:=i) (by omega)
  have hn:(nxt H.length i).toNat < H.length:=by omega
  have h3:=hH.three
  have hlow:=hH.low i hi
  have nd:nth (t:=tVec) H (nxt H.length i).toNat ≠ nth (t:=tVec) H i:=by
   rw [nth_lt hn,nth_lt hi]
   intro e
   have e2:=nd_inj hH.nodup _ _ e
   have:=nxt_cases hi
   split at this<;>omega
  obtain ⟨p,hp,q,hq,e1⟩:=smV_mem.1 (hH.sub _ (nth_mem hi))
  obtain ⟨p',hp',q',hq',e2⟩:=smV_mem.1 (hH.sub _ (nth_mem hn))
  have hdd:edgV H i=sbV (nth (t:=tVec) H (nxt H.length i).toNat) (nth (t:=tVec) H i):=rfl
  have hd0:edgV H i ≠ (0,0):=by
   exact sb_ne nd
  have A:∀ x ∈ a,0<=crs (edgV H i) (sbV x p):=fun x hx=>by
   have h:=hlow (addV x q) (smV_mem.2 ⟨x,hx,q,hq,rfl⟩)
   rw [trn_crs,<-hdd,<-e1] at h
   have:sbV (addV x q) (addV p q)=sbV x p:=by unfold sbV addV; exact Prod.ext (by simp only; omega) (by simp only; omega)
   rw [this] at h; exact h
  have B:∀ y ∈ b,0<=crs (edgV H i) (sbV y q):=fun y hy=>by
   have h:=hlow (addV p y) (smV_mem.2 ⟨p,hp,y,hy,rfl⟩)
   rw [trn_crs,<-hdd,<-e1] at h
   have:sbV (addV p y) (addV p q)=sbV y q:=by unfold sbV addV; exact Prod.ext (by simp only; omega) (by simp only; omega)
   rw [this] at h; exact h
  have hz:crs (edgV H i) (sbV p' p)+crs (edgV H i) (sbV q' q)=0:=by
   have:edgV H i=(p'.1 - p.1+(q'.1 - q.1),p'.2 - p.2+(q'.2 - q.2)):=by
    rw [hdd,<-e1,<-e2]; unfold sbV addV; exact Prod.ext (by simp only; omega) (by simp only; omega)
   rw [this]; unfold crs sbV; grind
  have hA:=A p' hp'
  have hB:=B q' hq'
  have zA:crs (edgV H i) (sbV p' p)=0:=by omega
  have zB:crs (edgV H i) (sbV q' q)=0:=by omega
  obtain ⟨i1,hi1,f1⟩:=List.getElem_of_mem hp
  obtain ⟨i2,hi2,f2⟩:=List.getElem_of_mem hp'
  obtain ⟨j1,hj1,g1⟩:=List.getElem_of_mem hq
  obtain ⟨j2,hj2,g2⟩:=List.getElem_of_mem hq'
  rw [<-nth_lt (t:=tVec) hi1] at f1
  rw [<-nth_lt (t:=tVec) hi2] at f2
  rw [<-nth_lt (t:=tVec) hj1] at g1
  rw [<-nth_lt (t:=tVec) hj2] at g2
  by_cases hpp:p=p'
  ·have hqq:q ≠ q':=fun h=>nd (by rw [<-e1,<-e2,hpp,h])
   obtain ⟨t,ht,h1,h2⟩:=supp_edge hb hd0 hj1 hj2 (by rw [g1,g2]; exact hqq) (by rw [g1]; exact B) (by rw [g1,g2]; exact zB)
   exact ⟨a.length+t,by omega,.inr ⟨by omega,by rw [show a.length+t - a.length=t by omega]; exact ⟨h1,h2⟩⟩⟩
  ·obtain ⟨t,ht,h1,h2⟩:=supp_edge ha hd0 hi1 hi2 (by rw [f1,f2]; exact hpp) (by rw [f1]; exact A) (by rw [f1,f2]; exact zA)
   exact ⟨t,by omega,.inl ⟨ht,h1,h2⟩⟩
 ·rintro i j c hi hj (⟨_,h1,h2⟩|⟨hc,h1,h2⟩) (⟨_,h3,h4⟩|⟨hc',h3,h4⟩)
  ·exact dir_inj hH hi hj h1 h2 h3 h4
  ·omega
  ·omega
  ·exact dir_inj hH hi hj h1 h2 h3 h4
theorem hullD_of {l:List DV} (hn:∃ a ∈ l,∃ b ∈ l,∃ c ∈ l,trn a b c ≠ 0):Cvx (fun p=>p ∈ l) (hullD l):=by
 have hn':∃ a ∈ srtD l,∃ b ∈ srtD l,∃ c ∈ srtD l,trn a b c ≠ 0:=by
  obtain ⟨a,ha,b,hb,c,hc,h⟩:=hn
  exact ⟨a,srtD_mem.2 ha,b,srtD_mem.2 hb,c,srtD_mem.2 hc,h⟩
 have hC:=hull_cvx (srtD_srt l) hn'
 have h2:¬ (srtD l).length < 2:=by
  obtain ⟨a,ha,b,hb,c,hc,h⟩:=hn'
  intro hlt
  match hs:srtD l,ha,hb,hc with
  | [x],ha,hb,hc =>
   simp at ha hb hc
   subst ha hb hc
   exact h (trn_aa _ _)
  | _ :: _ :: _,_,_,_=>rw [hs] at hlt; simp at hlt; omega
 unfold hullD
 rw [if_neg h2]
 exact ⟨hC.three,hC.nodup,hC.str,fun i hi p hp=>hC.low i hi p (srtD_mem.2 hp),fun x hx=>srtD_mem.1 (hC.sub x hx)⟩
theorem trn_addV (c:DV) (x y z:DV):trn (addV x c) (addV y c) (addV z c)=trn x y z:=by unfold trn addV; grind
theorem sum_poly {a b:List DV} (ha:polyP a) (hb:polyP b) (hl:a.length+b.length<=16) (hs:∀ x ∈ smV a b,okV x=true):polyP (hullD (smV a b)):=by
 have la:3<=a.length:=by have:=ha.1.1; omega
 have lb:3<=b.length:=by have:=hb.1.1; omega
 have hC:=hullD_of (l:=smV a b) (by
  have m0:nth (t:=tVec) b 0 ∈ b:=nth_mem (by omega)
  have r0:(nxt a.length 0).toNat=1:=nxt_lt (by omega)
  refine ⟨_,smV_mem.2 ⟨_,nth_mem (l:=a) (i:=0) (by omega),_,m0,rfl⟩,_,smV_mem.2 ⟨_,nth_mem (l:=a) (i:=1) (by omega),_,m0,rfl⟩,_,smV_mem.2 ⟨_,nth_mem (l:=a) (i:=2) (by omega),_,m0,rfl⟩,?_⟩
  rw [trn_addV]
  have:=corn ha (i:=0) (k:=2) (by omega) (by omega) (by omega) (by omega)
  rw [r0] at this
  omega)
 have hle:=mink_le ha hb hC
 have h3:=hC.three
 refine ⟨⟨by omega,by omega⟩,fun v hv=>hs v (hC.sub v hv),fun i k hi hk n1 n2=>?_⟩
 have ri:=nxt_rng (n:=(hullD (smV a b)).length) (i:=i) (by omega)
 have hn:(nxt (hullD (smV a b)).length i).toNat < (hullD (smV a b)).length:=by omega
 have nd:∀ {j:Nat} (hj:j < (hullD (smV a b)).length),k ≠ j->nth (t:=tVec) (hullD (smV a b)) k ≠ nth (t:=tVec) (hullD (smV a b)) j:=by
  intro j hj hkj
  rw [nth_lt hk,nth_lt hj]
  intro e
  exact hkj (nd_inj hC.nodup _ _ e)
 rcases hC.str i hi _ (nth_mem hk) with h|h|h
 ·exact absurd h (nd hi (by omega))
 ·exact absurd h (nd hn (by omega))
 ·exact h
theorem nth_memT {t:Ty} {l:List t.den} {i:Nat} (h:i < l.length):nth l i ∈ l:=by rw [nth_lt h]; exact List.getElem_mem h
theorem indexFunc_vecC_fn (F:FuncId) (A:Ty) (x:A.den) (p:DV->Bool) (l:List DV) (hF:∀ y ∈ l,Fn Tryz.prog F (⟨tVec,y⟩ :: capD A x) false [⟨.bool,p y⟩]):Fn Tryz.prog 94 [⟨.slice tVec,l⟩,⟨.ext (.clo F) A,some x⟩] false [⟨.int,ixf (t:=tVec) p l⟩]:=by
 refine fe Tryz.func94 Tryz.ntmps94 Tryz.results94 fun hwf=>?_
 have hl:l.length<=9223372036854775807:=(hwf ⟨.slice tVec,l⟩ (by simp)).1
 try simp (maxSteps:=9^9) only[go_sem]
 refine LoopG.intro _ _ _ (fun i:Nat=>⟨[(0,.sl tVec l),(1,.ex (.clo F) A (some x)),(7,.sc (.int .i64 l.length)),(8,.sc (.int .i64 i))],[]⟩) (fun i=>∀ j < i,j < l.length->p (nth (t:=tVec) l j)=false) (fun i=>l.length - i) 0 ?_ (fun j h=>by simp at h) ?_
 ·exact WK
 ·rintro i h2
  try simp (maxSteps:=9^9) only[go_sem]
  refine CondW_dec (fun h3=>?_) (fun h3=>?_)
  ·have c1:=hF (nth (t:=tVec) l i) (nth_memT (t:=tVec) (by omega))
   try simp (maxSteps:=9^9) only[go_sem]
   repeat refine AI ?_
   repeat refine AI ?_
   refine CallD.mk (c1) ?_
   try simp (maxSteps:=9^9) only[go_sem]
   refine CondW_b (fun h4=>?_) (fun h4=>?_)
   ·try simp (maxSteps:=9^9) only[go_sem]
    exact (ixf_at (by omega) h4 (fun j hj=>h2 j hj (by omega))).symm
   ·try simp (maxSteps:=9^9) only[go_sem]
    repeat refine AI ?_
    refine LoopK.mk (i+1) ?_ (fun j hj hl=>?_) (by omega)
    ·exact WK
    ·by_cases hj2:j < i
     ·exact h2 j hj2 hl
     ·rw [show j=i by omega]; exact h4
  ·try simp (maxSteps:=9^9) only[go_sem]
   exact (ixf_none fun j hj=>h2 j (by omega) hj).symm
theorem containsFunc_vecC_fn (F:FuncId) (A:Ty) (x:A.den) (p:DV->Bool) (l:List DV) (hF:∀ y ∈ l,Fn Tryz.prog F (⟨tVec,y⟩ :: capD A x) false [⟨.bool,p y⟩]):Fn Tryz.prog 70 [⟨.slice tVec,l⟩,⟨.ext (.clo F) A,some x⟩] false [⟨.bool,l.any p⟩]:=by
 have c1:=indexFunc_vecC_fn F A x p l hF
 refine fe Tryz.func70 Tryz.ntmps70 Tryz.results70 fun hwf=>?_
 try simp (maxSteps:=9^9) only[go_sem]
 repeat refine AI ?_
 refine cw c1 ?_
 try simp (maxSteps:=9^9) only[go_sem]
 exact ixf_any
theorem areInC_fn (k:Int) (hk:0<=k/\k<=1000000) (v:DV):Fn Tryz.prog 71 [⟨tVec,v⟩,⟨.ext .ref .int,some k⟩] false [⟨.bool,!inB k v⟩]:=by
 have c1:=within_fn v.1 (-k) k
 have c2:=within_fn v.2 (-k) k
 unfold inB
 cases h:decide (-k<=v.1/\v.1<=k)<;>rw [h] at c1
 ·refine fe Tryz.func71 Tryz.ntmps71 Tryz.results71 fun hwf=>?_
  try simp (maxSteps:=9^9) only[go_sem]
  repeat refine AI ?_
  repeat refine AI ?_
  refine cw c1 ?_
  try simp (maxSteps:=9^9) only[go_sem]
  all_goals repeat refine AI ?_
  all_goals first|kernel_rfl|omega|rfl
 ·refine fe Tryz.func71 Tryz.ntmps71 Tryz.results71 fun hwf=>?_
  try simp (maxSteps:=9^9) only[go_sem]
  repeat refine AI ?_
  repeat refine AI ?_
  refine cw c1 ?_
  try simp (maxSteps:=9^9) only[go_sem]
  repeat refine AI ?_
  repeat refine AI ?_
  refine cw c2 ?_
  try simp (maxSteps:=9^9) only[go_sem]
  all_goals repeat refine AI ?_
  all_goals first|kernel_rfl|omega|rfl
theorem areIn_fn (k:Int) (hk:0<=k/\k<=1000000) (l:List DV):Fn Tryz.prog 48 [⟨.int,k⟩,⟨.slice tVec,l⟩] false [⟨.bool,!(l.any fun v=>!inB k v)⟩]:=by
 have c1:=containsFunc_vecC_fn 71 (.ext .ref .int) (some k) (fun v=>!inB k v) l (fun y _=>areInC_fn k hk y)
 refine fe Tryz.func48 Tryz.ntmps48 Tryz.results48 fun hwf=>?_
 try simp (maxSteps:=9^9) only[go_sem]
 repeat refine AI ?_
 repeat refine AI ?_
 refine CallK.mk (c1) ?_
 try simp (maxSteps:=9^9) only[go_sem]
 all_goals repeat refine AI ?_
 all_goals first|kernel_rfl|omega|rfl
def allIn (k:Int) (l:List DV):Bool:=!(l.any fun v=>!inB k v)
theorem allIn_f {k:Int} {l:List DV} {i:Nat} (hi:i < l.length) (h:inB k (nth (t:=tVec) l i)=false):allIn k l=false:=by
 unfold allIn
 rw [Bool.not_eq_false',List.any_eq_true]
 exact ⟨_,nth_mem hi,by rw [h]; rfl⟩
theorem allIn_t {k:Int} {l:List DV} (h:∀ i,i < l.length->inB k (nth (t:=tVec) l i)=true):allIn k l=true:=by
 unfold allIn
 rw [Bool.not_eq_true',List.any_eq_false]
 intro v hv
 obtain ⟨i,hi,rfl⟩:=List.getElem_of_mem hv
 have:=h i hi
 rw [nth_lt hi] at this
 rw [this]; decide
theorem l10Inside_fn (l:List DV) (k:Int) (hk:0<=k/\k<=1000000):Fn Tryz.prog 42 [⟨.slice tVec,l⟩,⟨.int,k⟩] false [⟨.bool,allIn k l⟩]:=by
 refine fe Tryz.func42 Tryz.ntmps42 Tryz.results42 fun hwf=>?_
 have hl:l.length<=9223372036854775807:=(hwf ⟨.slice tVec,l⟩ (by simp)).1
 try simp (maxSteps:=9^9) only[go_sem]
 refine LoopG.intro _ _ _ (fun i:Nat=>⟨[(1,.sc (.int .i64 k)),(7,.sl tVec l),(8,.sc (.int .i64 l.length)),(9,.sc (.int .i64 i))],[]⟩) (fun i=>∀ j,j < i->j < l.length->inB k (nth (t:=tVec) l j)=true) (fun i=>l.length - i) 0 ?_ (fun j h=>absurd h (Nat.not_lt_zero _)) ?_
 ·exact WK
 ·rintro i hi
  try simp (maxSteps:=9^9) only[go_sem]
  refine CondW_dec (fun hA=>?_) (fun hA=>?_)
  ·have c1:=l01In_fn (nth (t:=tVec) l i).1 (-k) k
   have c2:=l01In_fn (nth (t:=tVec) l i).2 (-k) k
   cases e1:decide (-k<=(nth (t:=tVec) l i).1/\(nth (t:=tVec) l i).1<=k)<;>rw [e1] at c1
   ·have e0:inB k (nth (t:=tVec) l i)=false:=by unfold inB; rw [e1]; rfl
    rw [allIn_f (by omega) e0]
    try simp (maxSteps:=9^9) only[go_sem]
    repeat refine AI ?_
    repeat refine AI ?_
    refine cw c1 ?_
    try simp (maxSteps:=9^9) only[go_sem]
   ·cases e2:decide (-k<=(nth (t:=tVec) l i).2/\(nth (t:=tVec) l i).2<=k)<;>rw [e2] at c2
    ·have e0:inB k (nth (t:=tVec) l i)=false:=by unfold inB; rw [e1,e2]; rfl
     rw [allIn_f (by omega) e0]
     try simp (maxSteps:=9^9) only[go_sem]
     repeat refine AI ?_
     repeat refine AI ?_
     refine cw c1 ?_
     try simp (maxSteps:=9^9) only[go_sem]
     repeat refine AI ?_
     refine cw c2 ?_
     try simp (maxSteps:=9^9) only[go_sem]
    ·have e0:inB k (nth (t:=tVec) l i)=true:=by unfold inB; rw [e1,e2]; rfl
     try simp (maxSteps:=9^9) only[go_sem]
     repeat refine AI ?_
     repeat refine AI ?_
     refine cw c1 ?_
     try simp (maxSteps:=9^9) only[go_sem]
     repeat refine AI ?_
     refine cw c2 ?_
     try simp (maxSteps:=9^9) only[go_sem]
     repeat refine AI ?_
     refine LoopK.mk (i+1) ?_ (fun j h1 h2=>?_) (by omega)
     ·exact WK
     ·by_cases h3:j < i
      ·exact hi j h3 h2
      ·rw [show j=i by omega]; exact e0
  ·rw [allIn_t fun j hj=>hi j (by omega) hj]
   try simp (maxSteps:=9^9) only[go_sem]
noncomputable def smB (l:List DV) (k:Int):Bool:=decide ((l.length:Int)<=5) && (polyB l && allIn k l)
theorem isSmall_fn (l:List DV) (k:Int) (hk:0<=k/\k<=1000000):Fn Tryz.prog 49 [⟨.slice tVec,l⟩,⟨.int,k⟩] false [⟨.bool,smB l k⟩]:=by
 have c1:=implIsPolygon_fn l
 unfold smB
 cases h1:decide ((l.length:Int)<=5)
 ·refine fe Tryz.func49 Tryz.ntmps49 Tryz.results49 fun hwf=>?_
  try simp (maxSteps:=9^9) only[go_sem,h1]
 ·cases h2:polyB l<;>rw [h2] at c1
  ·refine fe Tryz.func49 Tryz.ntmps49 Tryz.results49 fun hwf=>?_
   try simp (maxSteps:=9^9) only[go_sem,h1]
   repeat refine AI ?_
   refine cw c1 ?_
   try simp (maxSteps:=9^9) only[go_sem]
  ·have c2:Fn Tryz.prog 48 [⟨.int,k⟩,⟨.slice tVec,l⟩] false [⟨.bool,allIn k l⟩]:=areIn_fn k hk l
   refine fe Tryz.func49 Tryz.ntmps49 Tryz.results49 fun hwf=>?_
   try simp (maxSteps:=9^9) only[go_sem,h1]
   repeat refine AI ?_
   refine cw c1 ?_
   try simp (maxSteps:=9^9) only[go_sem]
   repeat refine AI ?_
   refine cw c2 ?_
   try simp (maxSteps:=9^9) only[go_sem]
theorem l10Shape_fn (l:List DV) (k:Int) (hk:0<=k/\k<=1000000):Fn Tryz.prog 43 [⟨.slice tVec,l⟩,⟨.int,k⟩] false [⟨.bool,smB l k⟩]:=by
 have c1:=specIsPolygon_fn l
 have c2:=l10Inside_fn l k hk
 unfold smB
 cases h2:polyB l<;>rw [h2] at c1
 ·rw [Bool.false_and,Bool.and_false]
  refine fe Tryz.func43 Tryz.ntmps43 Tryz.results43 fun hwf=>?_
  try simp (maxSteps:=9^9) only[go_sem]
  repeat refine AI ?_
  refine cw c1 ?_
  try simp (maxSteps:=9^9) only[go_sem]
 ·cases h1:decide ((l.length:Int)<=5)
  ·refine fe Tryz.func43 Tryz.ntmps43 Tryz.results43 fun hwf=>?_
   try simp (maxSteps:=9^9) only[go_sem]
   repeat refine AI ?_
   refine cw c1 ?_
   try simp (maxSteps:=9^9) only[go_sem]
   try simp (maxSteps:=9^9) only[go_sem,h1]
  ·refine fe Tryz.func43 Tryz.ntmps43 Tryz.results43 fun hwf=>?_
   try simp (maxSteps:=9^9) only[go_sem]
   repeat refine AI ?_
   refine cw c1 ?_
   try simp (maxSteps:=9^9) only[go_sem]
   try simp (maxSteps:=9^9) only[go_sem,h1]
   repeat refine AI ?_
   refine cw c2 ?_
   try simp (maxSteps:=9^9) only[go_sem]
theorem polyB_p {l:List DV} (h:polyB l=true):polyP l:=@of_decide_eq_true _ (Classical.propDecidable _) h
theorem poly_map {l:List DV} {f:DV->DV} (h:polyP l) (hok:∀ v ∈ l,okV (f v)=true) (ht:∀ a b c,trn (f a) (f b) (f c)=trn a b c):polyP (l.map f):=by
 have hn:∀ {k},k < l.length->nth (t:=tVec) (l.map f) k=f (nth (t:=tVec) l k):=fun {k} hk=>by
  rw [nth_lt (t:=tVec) hk,nth_lt (t:=tVec) (l:=l.map f) (by rw [List.length_map]; exact hk),List.getElem_map]
 refine ⟨by rw [List.length_map]; exact h.1,fun v hv=>?_,fun i k hi hk=>?_⟩
 ·obtain ⟨u,hu,rfl⟩:=List.mem_map.1 hv
  exact hok u hu
 ·rw [List.length_map] at hi hk
  have ri:=nxt_rng (n:=l.length) (i:=i) (by omega)
  have:=h.2.2 i k hi hk
  unfold cornOK at this ⊢
  rw [List.length_map,hn hi,hn hk,hn (by omega),ht]
  exact this
theorem trn_rot1 (a b c:DV):trn (rot1 a) (rot1 b) (rot1 c)=trn a b c:=by unfold trn rot1; grind
theorem trn_rot (a b c:DV):∀ n,trn (rotN n a) (rotN n b) (rotN n c)=trn a b c
 | 0=>rfl
 | n+1=>by
  show trn (rot1 (rotN n a)) (rot1 (rotN n b)) (rot1 (rotN n c))=_
  rw [trn_rot1,trn_rot a b c n]
theorem okV_neg {v:DV} (h:okV v=true):okV (negV v)=true:=by
 obtain ⟨h1,h2,h3,h4⟩:=okV_b h
 unfold negV
 exact okV_of (by simp only; omega) (by simp only; omega) (by simp only; omega) (by simp only; omega)
theorem poly_neg {l:List DV} (h:polyP l):polyP (l.map negV):=poly_map h (fun v hv=>okV_neg (h.2.1 v hv)) trn_ng
theorem poly_rot {l:List DV} (h:polyP l) (n:Nat):polyP (l.map (rotN n)):=poly_map h (fun v hv=>okV_rot (h.2.1 v hv) n) fun a b c=>trn_rot a b c n
theorem inB_b {k:Int} {v:DV} (h:inB k v=true):-k<=v.1/\v.1<=k/\-k<=v.2/\v.2<=k:=by
 unfold inB at h
 rw [Bool.and_eq_true] at h
 exact ⟨(of_decide_eq_true h.1).1,(of_decide_eq_true h.1).2,(of_decide_eq_true h.2).1,(of_decide_eq_true h.2).2⟩
theorem inB_of {k:Int} {v:DV} (h1:-k<=v.1) (h2:v.1<=k) (h3:-k<=v.2) (h4:v.2<=k):inB k v=true:=by
 unfold inB
 rw [Bool.and_eq_true,decide_eq_true_iff,decide_eq_true_iff]
 exact ⟨⟨h1,h2⟩,h3,h4⟩
theorem inB_rot {k:Int} {v:DV} (h:inB k v=true):∀ n,inB k (rotN n v)=true
 | 0=>h
 | n+1=>by
  obtain ⟨b1,b2,b3,b4⟩:=inB_b (inB_rot h n)
  show inB k (rot1 (rotN n v))=true
  unfold rot1
  exact inB_of (by simp only; omega) (by simp only; omega) (by simp only; omega) (by simp only; omega)
structure SmP (k:Int) (l:List DV):Prop where
 five:l.length<=5
 poly:polyP l
 ins:∀ v ∈ l,inB k v=true
theorem smB_p {l:List DV} {k:Int} (h:smB l k=true):SmP k l:=by
 unfold smB at h
 rw [Bool.and_eq_true,Bool.and_eq_true] at h
 obtain ⟨h1,h2,h3⟩:=h
 refine ⟨by have:=of_decide_eq_true h1; omega,polyB_p h2,fun v hv=>?_⟩
 unfold allIn at h3
 rw [Bool.not_eq_true',List.any_eq_false] at h3
 have:=h3 v hv
 simpa using this
theorem SmP.rot {k:Int} {l:List DV} (h:SmP k l) (n:Nat):SmP k (l.map (rotN n)) :=
 ⟨by rw [List.length_map]; exact h.five,poly_rot h.poly n,fun v hv=>by obtain ⟨u,hu,rfl⟩:=List.mem_map.1 hv; exact inB_rot (h.ins u hu) n⟩
theorem SmP.neg {k:Int} {l:List DV} (h:SmP k l):SmP k (l.map negV) :=
 ⟨by rw [List.length_map]; exact h.five,poly_neg h.poly,fun v hv=>by
  obtain ⟨u,hu,rfl⟩:=List.mem_map.1 hv
  obtain ⟨b1,b2,b3,b4⟩:=inB_b (h.ins u hu)
  unfold negV
  exact inB_of (by simp only; omega) (by simp only; omega) (by simp only; omega) (by simp only; omega)⟩
theorem SmP.ok {k:Int} {l:List DV} (h:SmP k l):∀ v ∈ l,okV v=true:=h.poly.2.1
theorem SmP.sum_ok {k m:Int} {a b:List DV} (ha:SmP k a) (hb:SmP m b) (hkm:k+m<=1000):∀ x ∈ smV a b,okV x=true:=by
 intro x hx
 obtain ⟨p,hp,q,hq,rfl⟩:=smV_mem.1 hx
 obtain ⟨b1,b2,b3,b4⟩:=inB_b (ha.ins p hp)
 obtain ⟨c1,c2,c3,c4⟩:=inB_b (hb.ins q hq)
 unfold addV
 exact okV_of (by simp only; omega) (by simp only; omega) (by simp only; omega) (by simp only; omega)
theorem SmP.sum {k m:Int} {a b:List DV} (ha:SmP k a) (hb:SmP m b) (hkm:k+m<=1000):polyP (hullD (smV a b)) :=
 sum_poly ha.poly hb.poly (by have:=ha.five; have:=hb.five; omega) (ha.sum_ok hb hkm)
def smI (a b:List DV) (i:Nat):List DV:=smV (a.take i) b
theorem smI_step {a b:List DV} {i:Nat} (h:i < a.length):smI a b (i+1)=smI a b i++b.map (addV (nth (t:=tVec) a i)):=by
 unfold smI smV
 rw [List.take_succ_eq_append_getElem h,nth_lt h,List.flatMap_append]
 simp
theorem smV_len (a b:List DV):(smV a b).length=a.length * b.length:=by
 unfold smV
 induction a with
 | nil=>simp
 | cons x a ih=>rw [List.flatMap_cons,List.length_append,ih,List.length_map,List.length_cons,Nat.succ_mul]; omega
theorem smI_len {a b:List DV} {i:Nat} (h:i<=a.length):(smI a b i).length=i * b.length:=by
 unfold smI; rw [smV_len,List.length_take,Nat.min_eq_left h]
theorem smI_all {a b:List DV} {i:Nat} (h:a.length<=i):smI a b i=smV a b:=by unfold smI; rw [List.take_of_length_le h]
theorem five_mul {i n:Nat} (h1:i<=5) (h2:n<=5):i * n<=25:=Nat.mul_le_mul h1 h2
theorem SumPolygonsI_fn {k m:Int} (a b:List DV) (ha:SmP k a) (hb:SmP m b) (hkm:k+m<=1000):Fn Tryz.prog 114 [⟨.slice tVec,a⟩,⟨.slice tVec,b⟩] true [⟨.slice tVec,hullD (smV a b)⟩]:=by
 have c1:=implIsPolygon_fn a
 have c2:=implIsPolygon_fn b
 rw [polyB_t ha.poly] at c1
 rw [polyB_t hb.poly] at c2
 have hab:=five_mul ha.five hb.five
 have l1:=ha.five
 have l2:=hb.five
 have hab':(a.length:Int) * (b.length:Int)<=25:=by exact_mod_cast hab
 have hab0:(0:Int)<=(a.length:Int) * (b.length:Int):=Int.mul_nonneg (by omega) (by omega)
 have d0:=decide_eq_false (p:=(a.length:Int) * (b.length:Int) > 64) (by omega)
 refine fe Tryz.func114 Tryz.ntmps114 Tryz.results114 fun hwf=>?_
 try simp (maxSteps:=9^9) only[go_sem]
 repeat refine AI ?_
 refine cw c1 ?_
 try simp (maxSteps:=9^9) only[go_sem]
 repeat refine AI ?_
 refine cw c2 ?_
 try simp (maxSteps:=9^9) only[go_sem]
 repeat refine AI ?_
 try simp (maxSteps:=9^9) only[go_sem,d0]
 refine LoopG.intro _ _ _ (fun i:Nat=>⟨[(1,.sl tVec b),(5,.row 0 0),(26,.sl tVec a),(27,.sc (.int .i64 a.length)),(28,.sc (.int .i64 i))],[(0,.row 36 tVec 0 true (smI a b i))]⟩) (fun i=>i<=a.length) (fun i=>a.length - i) 0 ?_ (Nat.zero_le _) ?_
 ·exact WK
 ·rintro i hi
  try simp (maxSteps:=9^9) only[go_sem]
  refine CondW_dec (fun hA=>?_) (fun hA=>?_)
  ·have hlt:i < a.length:=by omega
   have hml:=smI_len (a:=a) (b:=b) (i:=i) (by omega)
   have h25:=five_mul (i:=i) (n:=b.length) (by omega) l2
   have e:=smI_step (b:=b) hlt
   have c3:=moved_fn b (nth (t:=tVec) a i) (ha.ok _ (nth_mem hlt)) hb.ok (by omega)
   have hmm:(b.map (addV (nth (t:=tVec) a i))).length=b.length:=List.length_map ..
   try simp (maxSteps:=9^9) only[go_sem]
   repeat refine AI ?_
   repeat refine AI ?_
   refine cw c3 ?_
   try simp (maxSteps:=9^9) only[go_sem]
   try simp (maxSteps:=9^9) only[go_sem,hml,hmm]
   repeat refine AI ?_
   refine LoopK.mk (i+1) ?_ (by omega) (by omega)
   rw [e]
   exact WK
  ·rw [smI_all (by omega)]
   have hp:=ha.sum hb hkm
   have hsl:=smV_len a b
   have pos:0 < (smV a b).length:=by
    rw [hsl]
    have:=ha.poly.1.1
    have:=hb.poly.1.1
    exact Nat.mul_pos (by omega) (by omega)
   have c4:=HullOf_fn (smV a b) (ha.sum_ok hb hkm) pos (by omega)
   have c5:=implIsPolygon_fn (hullD (smV a b))
   rw [polyB_t hp] at c5
   try simp (maxSteps:=9^9) only[go_sem]
   repeat refine AI ?_
   refine cw c4 ?_
   try simp (maxSteps:=9^9) only[go_sem]
   repeat refine AI ?_
   refine cw c5 ?_
   try simp (maxSteps:=9^9) only[go_sem]
theorem addV_c (p q:DV):addV p q=(p.1+q.1,p.2+q.2):=by unfold addV; rw [Int.add_comm q.1,Int.add_comm q.2]
def smJ (a b:List DV) (i j:Nat):List DV:=smI a b i++mapi (addV (nth (t:=tVec) a i)) b j
theorem smJ_step {a b:List DV} {i j:Nat} (h:j < b.length):smJ a b i (j+1)=smJ a b i j++[((nth (t:=tVec) a i).1+(nth (t:=tVec) b j).1,(nth (t:=tVec) a i).2+(nth (t:=tVec) b j).2)]:=by
 unfold smJ
 rw [mapi_step h,addV_c,List.append_assoc]
theorem smJ_len {a b:List DV} {i j:Nat} (h:i<=a.length) (hj:j<=b.length):(smJ a b i j).length=i * b.length+j:=by
 unfold smJ
 rw [List.length_append,smI_len h,mapi_len hj]
theorem smJ_0 (a b:List DV) (i:Nat):smJ a b i 0=smI a b i:=by unfold smJ mapi; simp
theorem smJ_all {a b:List DV} {i j:Nat} (h:i < a.length) (hj:b.length<=j):smJ a b i j=smI a b (i+1):=by
 unfold smJ
 rw [smI_step h,mapi_all hj]
theorem SumPolygonsS_fn {k m:Int} (a b:List DV) (ha:SmP k a) (hb:SmP m b) (hkm:k+m<=1000):Fn Tryz.prog 89 [⟨.slice tVec,a⟩,⟨.slice tVec,b⟩] true [⟨.slice tVec,hullD (smV a b)⟩]:=by
 have c1:=specIsPolygon_fn a
 have c2:=specIsPolygon_fn b
 rw [polyB_t ha.poly] at c1
 rw [polyB_t hb.poly] at c2
 have hab:=five_mul ha.five hb.five
 have l1:=ha.five
 have l2:=hb.five
 have hab':(a.length:Int) * (b.length:Int)<=25:=by exact_mod_cast hab
 have hab0:(0:Int)<=(a.length:Int) * (b.length:Int):=Int.mul_nonneg (by omega) (by omega)
 have d0:=decide_eq_false (p:=(a.length:Int) * (b.length:Int) > 64) (by omega)
 refine fe Tryz.func89 Tryz.ntmps89 Tryz.results89 fun hwf=>?_
 try simp (maxSteps:=9^9) only[go_sem]
 repeat refine AI ?_
 refine cw c1 ?_
 try simp (maxSteps:=9^9) only[go_sem]
 repeat refine AI ?_
 refine cw c2 ?_
 try simp (maxSteps:=9^9) only[go_sem]
 repeat refine AI ?_
 try simp (maxSteps:=9^9) only[go_sem,d0]
 refine LoopG.intro _ _ _ (fun i:Nat=>⟨[(1,.sl tVec b),(5,.row 0 0),(28,.sl tVec a),(29,.sc (.int .i64 a.length)),(30,.sc (.int .i64 i))],[(0,.row 36 tVec 0 true (smI a b i))]⟩) (fun i=>i<=a.length) (fun i=>a.length - i) 0 ?_ (Nat.zero_le _) ?_
 ·exact WK
 ·rintro i hi
  try simp (maxSteps:=9^9) only[go_sem]
  refine CondW_dec (fun hA=>?_) (fun hA=>?_)
  ·have hlt:i < a.length:=by omega
   have h25:=five_mul (i:=i) (n:=b.length) (by omega) l2
   obtain ⟨q1,q2,q3,q4⟩:=okV_b (ha.ok _ (nth_mem hlt))
   rw [<-smJ_0]
   try simp (maxSteps:=9^9) only[go_sem]
   repeat refine AI ?_
   refine LoopG.intro _ _ _ (fun j:Nat=>⟨[(1,.sl tVec b),(5,.row 0 0),(7,.ptr 1 0),(28,.sl tVec a),(29,.sc (.int .i64 a.length)),(30,.sc (.int .i64 i)),(34,.sl tVec b),(35,.sc (.int .i64 b.length)),(36,.sc (.int .i64 j))],[(1,.box [.sc (.int .i64 (nth (t:=tVec) a i).1),.sc (.int .i64 (nth (t:=tVec) a i).2)]),(0,.row 36 tVec 0 true (smJ a b i j))]⟩) (fun j=>j<=b.length) (fun j=>b.length - j) 0 ?_ (Nat.zero_le _) ?_
   ·exact WK
   ·rintro j hj
    try simp (maxSteps:=9^9) only[go_sem]
    refine CondW_dec (fun hB=>?_) (fun hB=>?_)
    ·have hlt2:j < b.length:=by omega
     have hml:=smJ_len (a:=a) (b:=b) (i:=i) (j:=j) (by omega) (by omega)
     have e:=smJ_step (a:=a) (b:=b) (i:=i) hlt2
     obtain ⟨b1,b2,b3,b4⟩:=okV_b (hb.ok _ (nth_mem hlt2))
     try simp (maxSteps:=9^9) only[go_sem,hml]
     repeat refine AI ?_
     try simp (maxSteps:=9^9) only[go_sem,hml]
     repeat refine AI ?_
     refine LoopK.mk (j+1) ?_ (by omega) (by omega)
     rw [e]
     refine Wk.mk [] ?_
     try simp (maxSteps:=9^9) only[go_sem]
     try (and_intros<;>first|rfl|omega|exact ⟨_,rfl⟩)
     all_goals (first|exact ⟨by omega,rfl⟩|exact ⟨rfl,rfl⟩)
    ·rw [smJ_all hlt (by omega)]
     try simp (maxSteps:=9^9) only[go_sem]
     repeat refine AI ?_
     refine LoopK.mk (i+1) ?_ (by omega) (by omega)
     exact WK
  ·rw [smI_all (by omega)]
   have hp:=ha.sum hb hkm
   have hsl:=smV_len a b
   have pos:0 < (smV a b).length:=by
    rw [hsl]
    have:=ha.poly.1.1
    have:=hb.poly.1.1
    exact Nat.mul_pos (by omega) (by omega)
   have c4:=specHull_fn (smV a b) (ha.sum_ok hb hkm) (by omega)
   have c5:=specIsPolygon_fn (hullD (smV a b))
   rw [polyB_t hp] at c5
   try simp (maxSteps:=9^9) only[go_sem]
   repeat refine AI ?_
   refine cw c4 ?_
   try simp (maxSteps:=9^9) only[go_sem]
   repeat refine AI ?_
   refine cw c5 ?_
   try simp (maxSteps:=9^9) only[go_sem]
def obsD (r o:List DV):List DV:=hullD (smV o (r.map negV))
theorem ObstacleForI_fn {k m:Int} (r o:List DV) (hr:SmP k r) (ho:SmP m o) (hkm:m+k<=1000):Fn Tryz.prog 102 [⟨.slice tVec,r⟩,⟨.slice tVec,o⟩] true [⟨.slice tVec,obsD r o⟩]:=by
 have c1:=NegatePolygonI_fn r hr.ok (by have:=hr.five; omega)
 have c2:=SumPolygonsI_fn o (r.map negV) ho hr.neg hkm
 unfold obsD
 refine fe Tryz.func102 Tryz.ntmps102 Tryz.results102 fun hwf=>?_
 try simp (maxSteps:=9^9) only[go_sem]
 repeat refine AI ?_
 refine cw c1 ?_
 try simp (maxSteps:=9^9) only[go_sem]
 repeat refine AI ?_
 refine cw c2 ?_
 try simp (maxSteps:=9^9) only[go_sem]
theorem ObstacleForS_fn {k m:Int} (r o:List DV) (hr:SmP k r) (ho:SmP m o) (hkm:m+k<=1000):Fn Tryz.prog 65 [⟨.slice tVec,r⟩,⟨.slice tVec,o⟩] true [⟨.slice tVec,obsD r o⟩]:=by
 have c1:=NegatePolygonS_fn r hr.ok (by have:=hr.five; omega)
 have c2:=SumPolygonsS_fn o (r.map negV) ho hr.neg hkm
 unfold obsD
 refine fe Tryz.func65 Tryz.ntmps65 Tryz.results65 fun hwf=>?_
 try simp (maxSteps:=9^9) only[go_sem]
 repeat refine AI ?_
 refine cw c1 ?_
 try simp (maxSteps:=9^9) only[go_sem]
 repeat refine AI ?_
 refine cw c2 ?_
 try simp (maxSteps:=9^9) only[go_sem]
abbrev DSc:Type:=tScene.den
noncomputable def obsOK (l:List (List DV)):Bool:=!(l.any fun x=>!smB x 200)
noncomputable def sceneB (s:DSc):Bool:=allIn 200 [s.1,s.2.1] && (decide (s.1.1 < s.2.1.1) && (decide (s.1.2 < s.2.1.2) && (smB s.2.2.1 20 && (decide ((s.2.2.2.1.length:Int)<=4) && (obsOK s.2.2.2.1 && (decide ((s.2.2.2.2.length:Int)<=3) && allIn 200 s.2.2.2.2))))))
theorem indexFunc_vs_fn (F:FuncId) (p:(List DV)->Bool) (l:List (List DV)) (hF:∀ y ∈ l,Fn Tryz.prog F [⟨(.slice tVec),y⟩] false [⟨.bool,p y⟩]):Fn Tryz.prog 74 [⟨.slice (.slice tVec),l⟩,⟨.cst (.fn F),()⟩] false [⟨.int,ixf (t:=(.slice tVec)) p l⟩]:=by
 refine fe Tryz.func74 Tryz.ntmps74 Tryz.results74 fun hwf=>?_
 have hl:l.length<=9223372036854775807:=(hwf ⟨.slice (.slice tVec),l⟩ (by simp)).1
 try simp (maxSteps:=9^9) only[go_sem]
 refine LoopG.intro _ _ _ (fun i:Nat=>⟨[(0,.sl (.slice tVec) l),(1,.sc (.func (.func F) #[] #[])),(7,.sc (.int .i64 l.length)),(8,.sc (.int .i64 i))],[]⟩) (fun i=>∀ j < i,j < l.length->p (nth (t:=(.slice tVec)) l j)=false) (fun i=>l.length - i) 0 ?_ (fun j h=>by simp at h) ?_
 ·exact WK
 ·rintro i h2
  try simp (maxSteps:=9^9) only[go_sem]
  refine CondW_dec (fun h3=>?_) (fun h3=>?_)
  ·have c1:=hF (nth (t:=(.slice tVec)) l i) (nth_memT (t:=(.slice tVec)) (by omega))
   try simp (maxSteps:=9^9) only[go_sem]
   repeat refine AI ?_
   repeat refine AI ?_
   refine cw c1 ?_
   try simp (maxSteps:=9^9) only[go_sem]
   refine CondW_b (fun h4=>?_) (fun h4=>?_)
   ·try simp (maxSteps:=9^9) only[go_sem]
    exact (ixf_at (by omega) h4 (fun j hj=>h2 j hj (by omega))).symm
   ·try simp (maxSteps:=9^9) only[go_sem]
    repeat refine AI ?_
    refine LoopK.mk (i+1) ?_ (fun j hj hl=>?_) (by omega)
    ·exact WK
    ·by_cases hj2:j < i
     ·exact h2 j hj2 hl
     ·rw [show j=i by omega]; exact h4
  ·try simp (maxSteps:=9^9) only[go_sem]
   exact (ixf_none fun j hj=>h2 j (by omega) hj).symm
theorem containsFunc_vs_fn (F:FuncId) (p:(List DV)->Bool) (l:List (List DV)) (hF:∀ y ∈ l,Fn Tryz.prog F [⟨(.slice tVec),y⟩] false [⟨.bool,p y⟩]):Fn Tryz.prog 50 [⟨.slice (.slice tVec),l⟩,⟨.cst (.fn F),()⟩] false [⟨.bool,l.any p⟩]:=by
 have c1:=indexFunc_vs_fn F p l hF
 refine fe Tryz.func50 Tryz.ntmps50 Tryz.results50 fun hwf=>?_
 try simp (maxSteps:=9^9) only[go_sem]
 repeat refine AI ?_
 refine cw c1 ?_
 try simp (maxSteps:=9^9) only[go_sem]
 exact ixf_any
theorem isValidSceneC_fn (l:List DV):Fn Tryz.prog 51 [⟨.slice tVec,l⟩] false [⟨.bool,!smB l 200⟩]:=by
 have c1:=isSmall_fn l 200 (by decide)
 refine fe Tryz.func51 Tryz.ntmps51 Tryz.results51 fun hwf=>?_
 try simp (maxSteps:=9^9) only[go_sem]
 repeat refine AI ?_
 refine cw c1 ?_
 try simp (maxSteps:=9^9) only[go_sem]
 all_goals repeat refine AI ?_
 all_goals first|kernel_rfl|omega|rfl
set_option maxHeartbeats 2000000 in
theorem IsValidSceneI_fn' (a1 a2 b1 b2:Int) (r:List DV) (ob:List (List DV)) (tb:List DV):Fn Tryz.prog 30 [⟨tScene,((a1,a2),(b1,b2),r,ob,tb)⟩] false [⟨.bool,sceneB ((a1,a2),(b1,b2),r,ob,tb)⟩]:=by
 have c1:Fn Tryz.prog 48 [⟨.int,200⟩,⟨.slice tVec,[(a1,a2),(b1,b2)]⟩] false [⟨.bool,allIn 200 [(a1,a2),(b1,b2)]⟩]:=areIn_fn 200 (by decide) _
 have c4:=isSmall_fn r 20 (by decide)
 have c6:=containsFunc_vs_fn 51 (fun x=>!smB x 200) ob (fun y _=>isValidSceneC_fn y)
 have c8:Fn Tryz.prog 48 [⟨.int,200⟩,⟨.slice tVec,tb⟩] false [⟨.bool,allIn 200 tb⟩]:=areIn_fn 200 (by decide) _
 unfold sceneB obsOK
 simp only
 cases h1:allIn 200 [(a1,a2),(b1,b2)]<;>rw [h1] at c1
 ·skip
  refine fe Tryz.func30 Tryz.ntmps30 Tryz.results30 fun hwf=>?_
  try simp (maxSteps:=9^9) only[go_sem]
  repeat refine AI ?_
  repeat refine AI ?_
  refine cw c1 ?_
  try simp (maxSteps:=9^9) only[go_sem]
  repeat refine AI ?_
  all_goals repeat refine AI ?_
  all_goals first|kernel_rfl|omega|rfl
 by_cases h2:a1 < b1
 rotate_left
 ·rw [decide_eq_false h2]
  have d2:=decide_eq_true (p:=a1 ≥ b1) (by omega)
  refine fe Tryz.func30 Tryz.ntmps30 Tryz.results30 fun hwf=>?_
  try simp (maxSteps:=9^9) only[go_sem]
  repeat refine AI ?_
  repeat refine AI ?_
  refine cw c1 ?_
  try simp (maxSteps:=9^9) only[go_sem]
  repeat refine AI ?_
  try simp (maxSteps:=9^9) only[go_sem,d2]
  repeat refine AI ?_
  all_goals repeat refine AI ?_
  all_goals first|kernel_rfl|omega|rfl
 rw [decide_eq_true h2]
 have d2:=decide_eq_false (p:=a1 ≥ b1) (by omega)
 by_cases h3:a2 < b2
 rotate_left
 ·rw [decide_eq_false h3]
  have d3:=decide_eq_true (p:=a2 ≥ b2) (by omega)
  refine fe Tryz.func30 Tryz.ntmps30 Tryz.results30 fun hwf=>?_
  try simp (maxSteps:=9^9) only[go_sem]
  repeat refine AI ?_
  repeat refine AI ?_
  refine cw c1 ?_
  try simp (maxSteps:=9^9) only[go_sem]
  repeat refine AI ?_
  try simp (maxSteps:=9^9) only[go_sem,d2]
  repeat refine AI ?_
  try simp (maxSteps:=9^9) only[go_sem,d3]
  repeat refine AI ?_
  all_goals repeat refine AI ?_
  all_goals first|kernel_rfl|omega|rfl
 rw [decide_eq_true h3]
 have d3:=decide_eq_false (p:=a2 ≥ b2) (by omega)
 cases h4:smB r 20<;>rw [h4] at c4
 ·skip
  refine fe Tryz.func30 Tryz.ntmps30 Tryz.results30 fun hwf=>?_
  try simp (maxSteps:=9^9) only[go_sem]
  repeat refine AI ?_
  repeat refine AI ?_
  refine cw c1 ?_
  try simp (maxSteps:=9^9) only[go_sem]
  repeat refine AI ?_
  try simp (maxSteps:=9^9) only[go_sem,d2]
  repeat refine AI ?_
  try simp (maxSteps:=9^9) only[go_sem,d3]
  repeat refine AI ?_
  repeat refine AI ?_
  refine cw c4 ?_
  try simp (maxSteps:=9^9) only[go_sem]
  repeat refine AI ?_
  all_goals repeat refine AI ?_
  all_goals first|kernel_rfl|omega|rfl
 by_cases h5:(ob.length:Int)<=4
 rotate_left
 ·rw [decide_eq_false h5]
  have d5:=decide_eq_true (p:=(ob.length:Int) > 4) (by omega)
  refine fe Tryz.func30 Tryz.ntmps30 Tryz.results30 fun hwf=>?_
  try simp (maxSteps:=9^9) only[go_sem]
  repeat refine AI ?_
  repeat refine AI ?_
  refine cw c1 ?_
  try simp (maxSteps:=9^9) only[go_sem]
  repeat refine AI ?_
  try simp (maxSteps:=9^9) only[go_sem,d2]
  repeat refine AI ?_
  try simp (maxSteps:=9^9) only[go_sem,d3]
  repeat refine AI ?_
  repeat refine AI ?_
  refine cw c4 ?_
  try simp (maxSteps:=9^9) only[go_sem]
  repeat refine AI ?_
  try simp (maxSteps:=9^9) only[go_sem,d5]
  repeat refine AI ?_
  all_goals repeat refine AI ?_
  all_goals first|kernel_rfl|omega|rfl
 rw [decide_eq_true h5]
 have d5:=decide_eq_false (p:=(ob.length:Int) > 4) (by omega)
 cases h6:ob.any fun x=>!smB x 200<;>rw [h6] at c6
 rotate_left
 ·skip
  refine fe Tryz.func30 Tryz.ntmps30 Tryz.results30 fun hwf=>?_
  try simp (maxSteps:=9^9) only[go_sem]
  repeat refine AI ?_
  repeat refine AI ?_
  refine cw c1 ?_
  try simp (maxSteps:=9^9) only[go_sem]
  repeat refine AI ?_
  try simp (maxSteps:=9^9) only[go_sem,d2]
  repeat refine AI ?_
  try simp (maxSteps:=9^9) only[go_sem,d3]
  repeat refine AI ?_
  repeat refine AI ?_
  refine cw c4 ?_
  try simp (maxSteps:=9^9) only[go_sem]
  repeat refine AI ?_
  try simp (maxSteps:=9^9) only[go_sem,d5]
  repeat refine AI ?_
  repeat refine AI ?_
  refine cw c6 ?_
  try simp (maxSteps:=9^9) only[go_sem]
  repeat refine AI ?_
  all_goals repeat refine AI ?_
  all_goals first|kernel_rfl|omega|rfl
 by_cases h7:(tb.length:Int)<=3
 rotate_left
 ·rw [decide_eq_false h7]
  have d7:=decide_eq_false (p:=(tb.length:Int)<=3) (by omega)
  refine fe Tryz.func30 Tryz.ntmps30 Tryz.results30 fun hwf=>?_
  try simp (maxSteps:=9^9) only[go_sem]
  repeat refine AI ?_
  repeat refine AI ?_
  refine cw c1 ?_
  try simp (maxSteps:=9^9) only[go_sem]
  repeat refine AI ?_
  try simp (maxSteps:=9^9) only[go_sem,d2]
  repeat refine AI ?_
  try simp (maxSteps:=9^9) only[go_sem,d3]
  repeat refine AI ?_
  repeat refine AI ?_
  refine cw c4 ?_
  try simp (maxSteps:=9^9) only[go_sem]
  repeat refine AI ?_
  try simp (maxSteps:=9^9) only[go_sem,d5]
  repeat refine AI ?_
  repeat refine AI ?_
  refine cw c6 ?_
  try simp (maxSteps:=9^9) only[go_sem]
  repeat refine AI ?_
  try simp (maxSteps:=9^9) only[go_sem,d7]
  repeat refine AI ?_
  all_goals repeat refine AI ?_
  all_goals first|kernel_rfl|omega|rfl
 rw [decide_eq_true h7]
 have d7:=decide_eq_true (p:=(tb.length:Int)<=3) (by omega)
 cases h8:allIn 200 tb<;>rw [h8] at c8
 ·skip
  refine fe Tryz.func30 Tryz.ntmps30 Tryz.results30 fun hwf=>?_
  try simp (maxSteps:=9^9) only[go_sem]
  repeat refine AI ?_
  repeat refine AI ?_
  refine cw c1 ?_
  try simp (maxSteps:=9^9) only[go_sem]
  repeat refine AI ?_
  try simp (maxSteps:=9^9) only[go_sem,d2]
  repeat refine AI ?_
  try simp (maxSteps:=9^9) only[go_sem,d3]
  repeat refine AI ?_
  repeat refine AI ?_
  refine cw c4 ?_
  try simp (maxSteps:=9^9) only[go_sem]
  repeat refine AI ?_
  try simp (maxSteps:=9^9) only[go_sem,d5]
  repeat refine AI ?_
  repeat refine AI ?_
  refine cw c6 ?_
  try simp (maxSteps:=9^9) only[go_sem]
  repeat refine AI ?_
  try simp (maxSteps:=9^9) only[go_sem,d7]
  repeat refine AI ?_
  repeat refine AI ?_
  refine cw c8 ?_
  try simp (maxSteps:=9^9) only[go_sem]
  repeat refine AI ?_
  all_goals repeat refine AI ?_
  all_goals first|kernel_rfl|omega|rfl
 refine fe Tryz.func30 Tryz.ntmps30 Tryz.results30 fun hwf=>?_
 try simp (maxSteps:=9^9) only[go_sem]
 repeat refine AI ?_
 repeat refine AI ?_
 refine cw c1 ?_
 try simp (maxSteps:=9^9) only[go_sem]
 repeat refine AI ?_
 try simp (maxSteps:=9^9) only[go_sem,d2]
 repeat refine AI ?_
 try simp (maxSteps:=9^9) only[go_sem,d3]
 repeat refine AI ?_
 repeat refine AI ?_
 refine cw c4 ?_
 try simp (maxSteps:=9^9) only[go_sem]
 repeat refine AI ?_
 try simp (maxSteps:=9^9) only[go_sem,d5]
 repeat refine AI ?_
 repeat refine AI ?_
 refine cw c6 ?_
 try simp (maxSteps:=9^9) only[go_sem]
 repeat refine AI ?_
 try simp (maxSteps:=9^9) only[go_sem,d7]
 repeat refine AI ?_
 repeat refine AI ?_
 refine cw c8 ?_
 try simp (maxSteps:=9^9) only[go_sem]
 repeat refine AI ?_
 all_goals repeat refine AI ?_
 all_goals first|kernel_rfl|omega|rfl
theorem IsValidSceneI_fn (s:DSc):Fn Tryz.prog 30 [⟨tScene,s⟩] false [⟨.bool,sceneB s⟩]:=IsValidSceneI_fn' s.1.1 s.1.2 s.2.1.1 s.2.1.2 s.2.2.1 s.2.2.2.1 s.2.2.2.2
set_option maxHeartbeats 2000000 in
theorem IsValidSceneS_fn' (a1 a2 b1 b2:Int) (r:List DV) (ob:List (List DV)) (tb:List DV):Fn Tryz.prog 22 [⟨tScene,((a1,a2),(b1,b2),r,ob,tb)⟩] false [⟨.bool,sceneB ((a1,a2),(b1,b2),r,ob,tb)⟩]:=by
 have c1:=l10Inside_fn [(a1,a2),(b1,b2)] 200 (by decide)
 have c4:=l10Shape_fn r 20 (by decide)
 have c8:=l10Inside_fn tb 200 (by decide)
 unfold sceneB
 simp only
 cases h1:allIn 200 [(a1,a2),(b1,b2)]<;>rw [h1] at c1
 ·skip
  refine fe Tryz.func22 Tryz.ntmps22 Tryz.results22 fun hwf=>?_
  try simp (maxSteps:=9^9) only[go_sem]
  repeat refine AI ?_
  repeat refine AI ?_
  refine cw c1 ?_
  try simp (maxSteps:=9^9) only[go_sem]
  repeat refine AI ?_
  all_goals repeat refine AI ?_
  all_goals first|kernel_rfl|omega|rfl
 by_cases h2:a1 < b1
 rotate_left
 ·rw [decide_eq_false h2]
  have d2:=decide_eq_true (p:=a1 ≥ b1) (by omega)
  refine fe Tryz.func22 Tryz.ntmps22 Tryz.results22 fun hwf=>?_
  try simp (maxSteps:=9^9) only[go_sem]
  repeat refine AI ?_
  repeat refine AI ?_
  refine cw c1 ?_
  try simp (maxSteps:=9^9) only[go_sem]
  repeat refine AI ?_
  try simp (maxSteps:=9^9) only[go_sem,d2]
  repeat refine AI ?_
  all_goals repeat refine AI ?_
  all_goals first|kernel_rfl|omega|rfl
 rw [decide_eq_true h2]
 have d2:=decide_eq_false (p:=a1 ≥ b1) (by omega)
 by_cases h3:a2 < b2
 rotate_left
 ·rw [decide_eq_false h3]
  have d3:=decide_eq_true (p:=a2 ≥ b2) (by omega)
  refine fe Tryz.func22 Tryz.ntmps22 Tryz.results22 fun hwf=>?_
  try simp (maxSteps:=9^9) only[go_sem]
  repeat refine AI ?_
  repeat refine AI ?_
  refine cw c1 ?_
  try simp (maxSteps:=9^9) only[go_sem]
  repeat refine AI ?_
  try simp (maxSteps:=9^9) only[go_sem,d2]
  repeat refine AI ?_
  try simp (maxSteps:=9^9) only[go_sem,d3]
  repeat refine AI ?_
  all_goals repeat refine AI ?_
  all_goals first|kernel_rfl|omega|rfl
 rw [decide_eq_true h3]
 have d3:=decide_eq_false (p:=a2 ≥ b2) (by omega)
 cases h4:smB r 20<;>rw [h4] at c4
 ·skip
  refine fe Tryz.func22 Tryz.ntmps22 Tryz.results22 fun hwf=>?_
  try simp (maxSteps:=9^9) only[go_sem]
  repeat refine AI ?_
  repeat refine AI ?_
  refine cw c1 ?_
  try simp (maxSteps:=9^9) only[go_sem]
  repeat refine AI ?_
  try simp (maxSteps:=9^9) only[go_sem,d2]
  repeat refine AI ?_
  try simp (maxSteps:=9^9) only[go_sem,d3]
  repeat refine AI ?_
  repeat refine AI ?_
  refine cw c4 ?_
  try simp (maxSteps:=9^9) only[go_sem]
  repeat refine AI ?_
  all_goals repeat refine AI ?_
  all_goals first|kernel_rfl|omega|rfl
 refine fe Tryz.func22 Tryz.ntmps22 Tryz.results22 fun hwf=>?_
 have hol:ob.length<=9223372036854775807:=(hwf ⟨tScene,((a1,a2),(b1,b2),r,ob,tb)⟩ (by simp)).2.2.2.1.1
 try simp (maxSteps:=9^9) only[go_sem]
 repeat refine AI ?_
 repeat refine AI ?_
 refine cw c1 ?_
 try simp (maxSteps:=9^9) only[go_sem]
 repeat refine AI ?_
 try simp (maxSteps:=9^9) only[go_sem,d2]
 repeat refine AI ?_
 try simp (maxSteps:=9^9) only[go_sem,d3]
 repeat refine AI ?_
 repeat refine AI ?_
 refine cw c4 ?_
 try simp (maxSteps:=9^9) only[go_sem]
 repeat refine AI ?_
 refine LoopG.intro _ _ _ (fun i:Nat=>⟨[(1,.ptr 0 0),(37,.sl (.slice tVec) ob),(38,.sc (.int .i64 ob.length)),(39,.sc (.int .i64 i))],[(0,.box (cel tScene ((a1,a2),(b1,b2),r,ob,tb)))]⟩) (fun i=>∀ j,j < i->j < ob.length->smB (nth (t:=.slice tVec) ob j) 200=true) (fun i=>ob.length - i) 0 ?_ (fun j h=>absurd h (Nat.not_lt_zero _)) ?_
 ·exact WK
 ·rintro i hi
  try simp (maxSteps:=9^9) only[go_sem]
  refine CondW_dec (fun hA=>?_) (fun hA=>?_)
  ·have c6:=l10Shape_fn (nth (t:=.slice tVec) ob i) 200 (by decide)
   cases h6:smB (nth (t:=.slice tVec) ob i) 200<;>rw [h6] at c6
   ·have e:obsOK ob=false:=by
     unfold obsOK
     rw [Bool.not_eq_false',List.any_eq_true]
     exact ⟨nth (t:=.slice tVec) ob i,nth_memT (t:=.slice tVec) (by omega),by rw [h6]; rfl⟩
    rw [e,Bool.false_and,Bool.and_false]
    try simp (maxSteps:=9^9) only[go_sem]
    repeat refine AI ?_
    repeat refine AI ?_
    refine cw c6 ?_
    try simp (maxSteps:=9^9) only[go_sem]
    all_goals repeat refine AI ?_
    all_goals first|kernel_rfl|omega|rfl
   ·try simp (maxSteps:=9^9) only[go_sem]
    repeat refine AI ?_
    repeat refine AI ?_
    refine cw c6 ?_
    try simp (maxSteps:=9^9) only[go_sem]
    repeat refine AI ?_
    refine LoopK.mk (i+1) ?_ (fun j h1 h2=>?_) (by omega)
    ·exact WK
    ·by_cases h3:j < i
     ·exact hi j h3 h2
     ·rw [show j=i by omega]; exact h6
  ·have e:obsOK ob=true:=by
    unfold obsOK
    rw [Bool.not_eq_true',List.any_eq_false]
    intro x hx
    obtain ⟨j,hj,rfl⟩:=List.getElem_of_mem hx
    have:=hi j (by omega) hj
    rw [nth_lt (t:=.slice tVec) hj] at this
    rw [this]; decide
   rw [e,Bool.true_and]
   by_cases h5:(ob.length:Int)<=4
   rotate_left
   ·rw [decide_eq_false h5]
    have d5:=decide_eq_false h5
    try simp (maxSteps:=9^9) only[go_sem]
    repeat refine AI ?_
    try simp (maxSteps:=9^9) only[go_sem,d5]
    all_goals repeat refine AI ?_
    all_goals first|kernel_rfl|omega|rfl
   rw [decide_eq_true h5]
   have d5:=decide_eq_true h5
   by_cases h7:(tb.length:Int)<=3
   rotate_left
   ·rw [decide_eq_false h7]
    have d7:=decide_eq_false h7
    try simp (maxSteps:=9^9) only[go_sem]
    repeat refine AI ?_
    try simp (maxSteps:=9^9) only[go_sem,d5]
    repeat refine AI ?_
    try simp (maxSteps:=9^9) only[go_sem,d7]
    all_goals repeat refine AI ?_
    all_goals first|kernel_rfl|omega|rfl
   rw [decide_eq_true h7]
   have d7:=decide_eq_true h7
   try simp (maxSteps:=9^9) only[go_sem]
   repeat refine AI ?_
   try simp (maxSteps:=9^9) only[go_sem,d5]
   repeat refine AI ?_
   try simp (maxSteps:=9^9) only[go_sem,d7]
   repeat refine AI ?_
   repeat refine AI ?_
   refine cw c8 ?_
   try simp (maxSteps:=9^9) only[go_sem]
   all_goals repeat refine AI ?_
   all_goals first|kernel_rfl|omega|rfl
theorem IsValidSceneS_fn (s:DSc):Fn Tryz.prog 22 [⟨tScene,s⟩] false [⟨.bool,sceneB s⟩]:=IsValidSceneS_fn' s.1.1 s.1.2 s.2.1.1 s.2.1.2 s.2.2.1 s.2.2.2.1 s.2.2.2.2
end Go.Proofs.YtpdiggaapdhffaaGreat.DW

namespace Go.Proofs.YtpdiggaapdhffaaGreat
open Go.RowKit
end Go.Proofs.YtpdiggaapdhffaaGreat

namespace Go.Proofs.YtpdiggaapdhffaaGreat.DW
open Go.RowKit
end Go.Proofs.YtpdiggaapdhffaaGreat.DW

namespace Go.Proofs.YtpdiggaapdhffaaGreat.DW
open Go.RowKit
theorem l07Max_fn (a b:Int):Fn Tryz.prog 87 [⟨.int,a⟩,⟨.int,b⟩] false [⟨.int,max a b⟩]:=by
 by_cases h:a > b
 ·have d:=decide_eq_true h
  rw [Int.max_eq_left (by omega)]
  refine fe Tryz.func87 Tryz.ntmps87 Tryz.results87 fun hwf=>?_
  try simp (maxSteps:=9^9) only[go_sem,d]
 ·have d:=decide_eq_false h
  rw [Int.max_eq_right (by omega)]
  refine fe Tryz.func87 Tryz.ntmps87 Tryz.results87 fun hwf=>?_
  try simp (maxSteps:=9^9) only[go_sem,d]
end Go.Proofs.YtpdiggaapdhffaaGreat.DW

namespace Go.Proofs.YtpdiggaapdhffaaGreat.DW
open Go.RowKit
end Go.Proofs.YtpdiggaapdhffaaGreat.DW

namespace Go.Proofs.YtpdiggaapdhffaaGreat.DW
open Go.RowKit
structure ScP (s:DSc):Prop where
 low:inB 200 s.1=true
 high:inB 200 s.2.1=true
 rob:SmP 20 s.2.2.1
 obs:∀ l ∈ s.2.2.2.1,SmP 200 l
 nobs:s.2.2.2.1.length<=4
 ntab:s.2.2.2.2.length<=3
 tabs:∀ v ∈ s.2.2.2.2,inB 200 v=true
 lx:s.1.1 < s.2.1.1
 ly:s.1.2 < s.2.1.2
theorem allIn_all {k:Int} {l:List DV} (h:allIn k l=true):∀ v ∈ l,inB k v=true:=fun v hv=>by
 unfold allIn at h
 rw [Bool.not_eq_true',List.any_eq_false] at h
 simpa using h v hv
theorem scene_p {s:DSc} (h:sceneB s=true):ScP s:=by
 unfold sceneB obsOK at h
 simp only [Bool.and_eq_true] at h
 obtain ⟨h1,h2,h3,h4,h5,h6,h7,h8⟩:=h
 have ha:=allIn_all h1
 refine ⟨ha _ (by simp),ha _ (by simp),smB_p h4,fun l hl=>smB_p ?_,?_,?_,allIn_all h8,of_decide_eq_true h2,of_decide_eq_true h3⟩
 ·rw [Bool.not_eq_true',List.any_eq_false] at h6
  simpa using h6 l hl
 ·have:=of_decide_eq_true h5; omega
 ·have:=of_decide_eq_true h7; omega
def robS (s:DSc) (h:Int):List DV:=s.2.2.1.map (rotN h.toNat)
theorem robS_sm {s:DSc} (hs:sceneB s=true) (h:Int):SmP 20 (robS s h):=(scene_p hs).rob.rot _
def widI (l:List DV):Nat->DV × DV
 | 0=>(nth (t:=tVec) l 0,nth (t:=tVec) l 0)
 | i+1=>((min (widI l i).1.1 (nth (t:=tVec) l i).1,min (widI l i).1.2 (nth (t:=tVec) l i).2),(max (widI l i).2.1 (nth (t:=tVec) l i).1,max (widI l i).2.2 (nth (t:=tVec) l i).2))
theorem widI_b {k:Int} {l:List DV} (h:∀ v ∈ l,inB k v=true) (h0:0 < l.length):∀ i,i<=l.length->((-k<=(widI l i).1.1/\(widI l i).1.1<=k)/\(-k<=(widI l i).1.2/\(widI l i).1.2<=k))/\((-k<=(widI l i).2.1/\(widI l i).2.1<=k)/\(-k<=(widI l i).2.2/\(widI l i).2.2<=k))
 | 0,_=>by
  have:=inB_b (h _ (nth_mem h0))
  unfold widI
  simp only
  omega
 | i+1,hi=>by
  have h1:=widI_b h h0 i (by omega)
  have h2:=inB_b (h _ (nth_mem (i:=i) (by omega)))
  unfold widI
  simp only
  omega
def widD (l:List DV):DV × DV:=widI l l.length
def boxD (s:DSc) (h:Int):DV × DV:=((s.1.1 - (widD (robS s h)).1.1,s.1.2 - (widD (robS s h)).1.2),(s.2.1.1 - (widD (robS s h)).2.1,s.2.1.2 - (widD (robS s h)).2.2))
def hdB (h:Int):Bool:=decide (0<=h/\h<=3)
def limB (s:DSc) (h:Int):Bool:=decide ((boxD s h).1.1 < (boxD s h).2.1) && decide ((boxD s h).1.2 < (boxD s h).2.2)
noncomputable def opnB (s:DSc) (h:Int):Bool:=sceneB s && (hdB h && limB s h)
noncomputable def arsD (s:DSc) (h:Int):List (List DV):=s.2.2.2.1.map (obsD (robS s h))
theorem wid_b {s:DSc} (hs:sceneB s=true) (h:Int):((-20<=(widD (robS s h)).1.1/\(widD (robS s h)).1.1<=20)/\(-20<=(widD (robS s h)).1.2/\(widD (robS s h)).1.2<=20))/\((-20<=(widD (robS s h)).2.1/\(widD (robS s h)).2.1<=20)/\(-20<=(widD (robS s h)).2.2/\(widD (robS s h)).2.2<=20)):=by
 have h1:=robS_sm hs h
 exact widI_b h1.ins (by have:=h1.poly.1.1; omega) _ (Nat.le_refl _)
theorem RobotAtI_fn (s:DSc) (h:Int) (hs:sceneB s=true) (hh:0<=h/\h<=3):Fn Tryz.prog 100 [⟨tScene,s⟩,⟨.int,h⟩] true [⟨.slice tVec,robS s h⟩]:=by
 have p:=(scene_p hs).rob
 have c1:=IsValidSceneI_fn s
 rw [hs] at c1
 have c2:=isHeading_fn h
 rw [decide_eq_true hh] at c2
 have c3:=TurnPolygonI_fn s.2.2.1 h p.ok (by have:=p.five; omega) hh
 unfold robS
 refine fe Tryz.func100 Tryz.ntmps100 Tryz.results100 fun hwf=>?_
 try simp (maxSteps:=9^9) only[go_sem]
 repeat refine AI ?_
 repeat refine AI ?_
 refine cw c1 ?_
 try simp (maxSteps:=9^9) only[go_sem]
 repeat refine AI ?_
 repeat refine AI ?_
 refine cw c2 ?_
 try simp (maxSteps:=9^9) only[go_sem]
 repeat refine AI ?_
 repeat refine AI ?_
 refine cw c3 ?_
 try simp (maxSteps:=9^9) only[go_sem]
 all_goals repeat refine AI ?_
 all_goals first|kernel_rfl|omega|rfl
theorem RobotAtI_nil (s:DSc) (h:Int) (hn:(sceneB s && hdB h)=false):Fn Tryz.prog 100 [⟨tScene,s⟩,⟨.int,h⟩] false [⟨.cst .nil,()⟩]:=by
 have c1:=IsValidSceneI_fn s
 have c2:=isHeading_fn h
 unfold hdB at hn
 cases hs:sceneB s<;>rw [hs] at c1 hn
 ·refine fe Tryz.func100 Tryz.ntmps100 Tryz.results100 fun hwf=>?_
  try simp (maxSteps:=9^9) only[go_sem]
  repeat refine AI ?_
  repeat refine AI ?_
  refine cw c1 ?_
  try simp (maxSteps:=9^9) only[go_sem]
  all_goals repeat refine AI ?_
  all_goals first|kernel_rfl|omega|rfl
 ·rw [Bool.true_and] at hn
  rw [hn] at c2
  refine fe Tryz.func100 Tryz.ntmps100 Tryz.results100 fun hwf=>?_
  try simp (maxSteps:=9^9) only[go_sem]
  repeat refine AI ?_
  repeat refine AI ?_
  refine cw c1 ?_
  try simp (maxSteps:=9^9) only[go_sem]
  repeat refine AI ?_
  repeat refine AI ?_
  refine cw c2 ?_
  try simp (maxSteps:=9^9) only[go_sem]
  all_goals repeat refine AI ?_
  all_goals first|kernel_rfl|omega|rfl
noncomputable def robN (s:DSc) (h:Int):List DV:=if sceneB s && hdB h then robS s h else []
theorem robN_t {s:DSc} {h:Int} (e:(sceneB s && hdB h)=true):robN s h=robS s h:=if_pos e
theorem robN_f {s:DSc} {h:Int} (e:(sceneB s && hdB h)=false):robN s h=[]:=if_neg (by rw [e]; decide)
theorem RobotAtS_fn (s:DSc) (h:Int):Fn Tryz.prog 64 [⟨tScene,s⟩,⟨.int,h⟩] true [⟨.slice tVec,robN s h⟩]:=by
 have c1:=IsValidSceneS_fn s
 have c2:=l01In_fn h 0 3
 cases hs:sceneB s<;>rw [hs] at c1
 ·rw [robN_f (by rw [hs]; rfl)]
  refine fe Tryz.func64 Tryz.ntmps64 Tryz.results64 fun hwf=>?_
  try simp (maxSteps:=9^9) only[go_sem]
  repeat refine AI ?_
  repeat refine AI ?_
  refine cw c1 ?_
  try simp (maxSteps:=9^9) only[go_sem]
  all_goals repeat refine AI ?_
  all_goals first|kernel_rfl|omega|rfl
 ·by_cases hh:0<=h/\h<=3
  ·rw [decide_eq_true hh] at c2
   have p:=(scene_p hs).rob
   have c3:=TurnPolygonS_fn s.2.2.1 h p.ok (by have:=p.five; omega) hh
   rw [robN_t (by rw [hs]; exact decide_eq_true hh)]
   unfold robS
   refine fe Tryz.func64 Tryz.ntmps64 Tryz.results64 fun hwf=>?_
   try simp (maxSteps:=9^9) only[go_sem]
   repeat refine AI ?_
   repeat refine AI ?_
   refine cw c1 ?_
   try simp (maxSteps:=9^9) only[go_sem]
   repeat refine AI ?_
   repeat refine AI ?_
   refine cw c2 ?_
   try simp (maxSteps:=9^9) only[go_sem]
   repeat refine AI ?_
   repeat refine AI ?_
   refine cw c3 ?_
   try simp (maxSteps:=9^9) only[go_sem]
   all_goals repeat refine AI ?_
   all_goals first|kernel_rfl|omega|rfl
  ·rw [decide_eq_false hh] at c2
   rw [robN_f (by rw [hs]; exact decide_eq_false hh)]
   refine fe Tryz.func64 Tryz.ntmps64 Tryz.results64 fun hwf=>?_
   try simp (maxSteps:=9^9) only[go_sem]
   repeat refine AI ?_
   repeat refine AI ?_
   refine cw c1 ?_
   try simp (maxSteps:=9^9) only[go_sem]
   repeat refine AI ?_
   repeat refine AI ?_
   refine cw c2 ?_
   try simp (maxSteps:=9^9) only[go_sem]
   all_goals repeat refine AI ?_
   all_goals first|kernel_rfl|omega|rfl
theorem widthOfI_fn (l:List DV) (h0:0 < l.length):Fn Tryz.prog 101 [⟨.slice tVec,l⟩] false [⟨tVec,(widD l).1⟩,⟨tVec,(widD l).2⟩]:=by
 refine fe Tryz.func101 Tryz.ntmps101 Tryz.results101 fun hwf=>?_
 have hl:l.length<=9223372036854775807:=(hwf ⟨.slice tVec,l⟩ (by simp)).1
 try simp (maxSteps:=9^9) only[go_sem]
 repeat refine AI ?_
 refine LoopG.intro _ _ _ (fun i:Nat=>⟨[(2,.ptr 0 0),(3,.ptr 1 0),(4,.ptr 2 0),(5,.ptr 3 0),(14,.sl tVec l),(15,.sc (.int .i64 l.length)),(16,.sc (.int .i64 i))],[(0,.box [.sc (.int .i64 0),.sc (.int .i64 0)]),(1,.box [.sc (.int .i64 0),.sc (.int .i64 0)]),(2,.box [.sc (.int .i64 (widI l i).1.1),.sc (.int .i64 (widI l i).1.2)]),(3,.box [.sc (.int .i64 (widI l i).2.1),.sc (.int .i64 (widI l i).2.2)])]⟩) (fun i=>i<=l.length) (fun i=>l.length - i) 0 ?_ (Nat.zero_le _) ?_
 ·exact WK
 ·rintro i hi
  try simp (maxSteps:=9^9) only[go_sem]
  refine CondW_dec (fun hA=>?_) (fun hA=>?_)
  ·try simp (maxSteps:=9^9) only[go_sem]
   repeat refine AI ?_
   refine LoopK.mk (i+1) ?_ (by omega) (by omega)
   exact WK
  ·rw [show widD l=widI l i by unfold widD; rw [show i=l.length by omega]]
   try simp (maxSteps:=9^9) only[go_sem]
   all_goals repeat refine AI ?_
   all_goals first|kernel_rfl|omega|rfl
theorem WidthOfS_fn (l:List DV) (hl:polyP l):Fn Tryz.prog 63 [⟨.slice tVec,l⟩] false [⟨tVec,(widD l).1⟩,⟨tVec,(widD l).2⟩,⟨.bool,true⟩]:=by
 have c1:=specIsPolygon_fn l
 rw [polyB_t hl] at c1
 have h0:=hl.1.1
 refine fe Tryz.func63 Tryz.ntmps63 Tryz.results63 fun hwf=>?_
 have hlm:l.length<=9223372036854775807:=(hwf ⟨.slice tVec,l⟩ (by simp)).1
 try simp (maxSteps:=9^9) only[go_sem]
 repeat refine AI ?_
 repeat refine AI ?_
 refine cw c1 ?_
 try simp (maxSteps:=9^9) only[go_sem]
 repeat refine AI ?_
 refine LoopG.intro _ _ _ (fun i:Nat=>⟨[(2,.ptr 0 0),(3,.ptr 1 0),(5,.ptr 2 0),(6,.ptr 3 0),(20,.sl tVec l),(21,.sc (.int .i64 l.length)),(22,.sc (.int .i64 i))],[(0,.box [.sc (.int .i64 0),.sc (.int .i64 0)]),(1,.box [.sc (.int .i64 0),.sc (.int .i64 0)]),(2,.box [.sc (.int .i64 (widI l i).1.1),.sc (.int .i64 (widI l i).1.2)]),(3,.box [.sc (.int .i64 (widI l i).2.1),.sc (.int .i64 (widI l i).2.2)])]⟩) (fun i=>i<=l.length) (fun i=>l.length - i) 0 ?_ (Nat.zero_le _) ?_
 ·exact WK
 ·rintro i hi
  try simp (maxSteps:=9^9) only[go_sem]
  refine CondW_dec (fun hA=>?_) (fun hA=>?_)
  ·have c2:=l07Min_fn (widI l i).1.1 (nth (t:=tVec) l i).1
   have c3:=l07Min_fn (widI l i).1.2 (nth (t:=tVec) l i).2
   have c4:=l07Max_fn (widI l i).2.1 (nth (t:=tVec) l i).1
   have c5:=l07Max_fn (widI l i).2.2 (nth (t:=tVec) l i).2
   try simp (maxSteps:=9^9) only[go_sem]
   repeat refine AI ?_
   repeat refine AI ?_
   refine cw c2 ?_
   try simp (maxSteps:=9^9) only[go_sem]
   repeat refine AI ?_
   repeat refine AI ?_
   refine cw c3 ?_
   try simp (maxSteps:=9^9) only[go_sem]
   repeat refine AI ?_
   repeat refine AI ?_
   refine cw c4 ?_
   try simp (maxSteps:=9^9) only[go_sem]
   repeat refine AI ?_
   repeat refine AI ?_
   refine cw c5 ?_
   try simp (maxSteps:=9^9) only[go_sem]
   repeat refine AI ?_
   refine LoopK.mk (i+1) ?_ (by omega) (by omega)
   exact WK
  ·rw [show widD l=widI l i by unfold widD; rw [show i=l.length by omega]]
   try simp (maxSteps:=9^9) only[go_sem]
   all_goals repeat refine AI ?_
   all_goals first|kernel_rfl|omega|rfl
theorem WidthOfS_nil:Fn Tryz.prog 63 [⟨.slice tVec,[]⟩] false [⟨tVec,((0:Int),(0:Int))⟩,⟨tVec,((0:Int),(0:Int))⟩,⟨.bool,false⟩]:=by
 have c1:=specIsPolygon_fn []
 rw [show polyB []=false from bdec_f fun h=>by have:=h.1.1; simp at this] at c1
 refine fe Tryz.func63 Tryz.ntmps63 Tryz.results63 fun hwf=>?_
 try simp (maxSteps:=9^9) only[go_sem]
 repeat refine AI ?_
 repeat refine AI ?_
 refine cw c1 ?_
 try simp (maxSteps:=9^9) only[go_sem]
 all_goals repeat refine AI ?_
 all_goals first|kernel_rfl|omega|rfl
theorem robS_len {s:DSc} (hs:sceneB s=true) (h:Int):3<=(robS s h).length/\(robS s h).length<=5:=by
 have h1:=(robS_sm hs h).poly.1.1
 have h2:=(robS_sm hs h).five
 omega
noncomputable def bxN (s:DSc) (h:Int):DV × DV:=if opnB s h then boxD s h else ((0,0),(0,0))
theorem bxN_t {s:DSc} {h:Int} (e:opnB s h=true):bxN s h=boxD s h:=if_pos e
theorem bxN_f {s:DSc} {h:Int} (e:opnB s h=false):bxN s h=((0,0),(0,0)):=if_neg (by rw [e]; decide)
theorem opnB_f1 {s:DSc} {h:Int} (e:(sceneB s && hdB h)=false):opnB s h=false:=by
 unfold opnB
 rw [<-Bool.and_assoc,e]; rfl
theorem opnB_t1 {s:DSc} {h:Int} (e:(sceneB s && hdB h)=true):opnB s h=limB s h:=by
 unfold opnB
 rw [<-Bool.and_assoc,e]; rfl
set_option maxHeartbeats 1000000 in
theorem LimitsOfI_fn (s:DSc) (h:Int):Fn Tryz.prog 76 [⟨tScene,s⟩,⟨.int,h⟩] false [⟨tBox,bxN s h⟩,⟨.bool,opnB s h⟩]:=by
 cases e:sceneB s && hdB h
 ·rw [bxN_f (opnB_f1 e),opnB_f1 e]
  have c1:=RobotAtI_nil s h e
  refine fe Tryz.func76 Tryz.ntmps76 Tryz.results76 fun hwf=>?_
  try simp (maxSteps:=9^9) only[go_sem]
  repeat refine AI ?_
  repeat refine AI ?_
  refine cw c1 ?_
  try simp (maxSteps:=9^9) only[go_sem]
  all_goals repeat refine AI ?_
  all_goals first|kernel_rfl|omega|rfl
 ·have es:=(Bool.and_eq_true_iff.1 e).1
  have eh:0<=h/\h<=3:=of_decide_eq_true (Bool.and_eq_true_iff.1 e).2
  have hb:=wid_b es h
  have hl1:=inB_b (scene_p es).low
  have hl2:=inB_b (scene_p es).high
  have hr:=robS_len es h
  have c1:=RobotAtI_fn s h es eh
  have c2:=widthOfI_fn (robS s h) (by omega)
  have hlim:limB s h=(decide ((boxD s h).1.1 < (boxD s h).2.1) && decide ((boxD s h).1.2 < (boxD s h).2.2)):=rfl
  by_cases h1:(boxD s h).1.1 < (boxD s h).2.1
  rotate_left
  ·have el:opnB s h=false:=by rw [opnB_t1 e,hlim,decide_eq_false h1]; rfl
   have d1:=decide_eq_true (p:=s.1.1 - (widD (robS s h)).1.1 ≥ s.2.1.1 - (widD (robS s h)).2.1) (show (boxD s h).2.1<=(boxD s h).1.1 from by omega)
   rw [bxN_f el,el]
   refine fe Tryz.func76 Tryz.ntmps76 Tryz.results76 fun hwf=>?_
   try simp (maxSteps:=9^9) only[go_sem]
   repeat refine AI ?_
   repeat refine AI ?_
   refine cw c1 ?_
   try simp (maxSteps:=9^9) only[go_sem]
   repeat refine AI ?_
   refine NilW.non (by intro e0; rw [e0] at hr; simp at hr) ?_
   try simp (maxSteps:=9^9) only[go_sem]
   repeat refine AI ?_
   repeat refine AI ?_
   refine cw c2 ?_
   try simp (maxSteps:=9^9) only[go_sem]
   repeat refine AI ?_
   try simp (maxSteps:=9^9) only[go_sem,d1]
   repeat refine AI ?_
   try simp (maxSteps:=9^9) only[go_sem,d1]
   all_goals repeat refine AI ?_
   all_goals first|kernel_rfl|omega|rfl
  have d1:=decide_eq_false (p:=s.1.1 - (widD (robS s h)).1.1 ≥ s.2.1.1 - (widD (robS s h)).2.1) (show ¬ ((boxD s h).2.1<=(boxD s h).1.1) from by omega)
  by_cases h2:(boxD s h).1.2 < (boxD s h).2.2
  rotate_left
  ·have el:opnB s h=false:=by rw [opnB_t1 e,hlim,decide_eq_true h1,decide_eq_false h2]; rfl
   have d2:=decide_eq_true (p:=s.1.2 - (widD (robS s h)).1.2 ≥ s.2.1.2 - (widD (robS s h)).2.2) (show (boxD s h).2.2<=(boxD s h).1.2 from by omega)
   rw [bxN_f el,el]
   refine fe Tryz.func76 Tryz.ntmps76 Tryz.results76 fun hwf=>?_
   try simp (maxSteps:=9^9) only[go_sem]
   repeat refine AI ?_
   repeat refine AI ?_
   refine cw c1 ?_
   try simp (maxSteps:=9^9) only[go_sem]
   repeat refine AI ?_
   refine NilW.non (by intro e0; rw [e0] at hr; simp at hr) ?_
   try simp (maxSteps:=9^9) only[go_sem]
   repeat refine AI ?_
   repeat refine AI ?_
   refine cw c2 ?_
   try simp (maxSteps:=9^9) only[go_sem]
   repeat refine AI ?_
   try simp (maxSteps:=9^9) only[go_sem,d1,d2]
   repeat refine AI ?_
   try simp (maxSteps:=9^9) only[go_sem,d1,d2]
   all_goals repeat refine AI ?_
   all_goals first|kernel_rfl|omega|rfl
  have d2:=decide_eq_false (p:=s.1.2 - (widD (robS s h)).1.2 ≥ s.2.1.2 - (widD (robS s h)).2.2) (show ¬ ((boxD s h).2.2<=(boxD s h).1.2) from by omega)
  have el:opnB s h=true:=by rw [opnB_t1 e,hlim,decide_eq_true h1,decide_eq_true h2]; rfl
  rw [bxN_t el,el]
  unfold boxD
  refine fe Tryz.func76 Tryz.ntmps76 Tryz.results76 fun hwf=>?_
  try simp (maxSteps:=9^9) only[go_sem]
  repeat refine AI ?_
  repeat refine AI ?_
  refine cw c1 ?_
  try simp (maxSteps:=9^9) only[go_sem]
  repeat refine AI ?_
  refine NilW.non (by intro e0; rw [e0] at hr; simp at hr) ?_
  try simp (maxSteps:=9^9) only[go_sem]
  repeat refine AI ?_
  repeat refine AI ?_
  refine cw c2 ?_
  try simp (maxSteps:=9^9) only[go_sem]
  repeat refine AI ?_
  try simp (maxSteps:=9^9) only[go_sem,d1,d2]
  repeat refine AI ?_
  try simp (maxSteps:=9^9) only[go_sem,d1,d2]
  all_goals repeat refine AI ?_
  all_goals first|kernel_rfl|omega|rfl
set_option maxHeartbeats 1000000 in
theorem LimitsOfS_fn (s:DSc) (h:Int):Fn Tryz.prog 44 [⟨tScene,s⟩,⟨.int,h⟩] false [⟨tBox,bxN s h⟩,⟨.bool,opnB s h⟩]:=by
 cases e:sceneB s && hdB h
 ·rw [bxN_f (opnB_f1 e),opnB_f1 e]
  have c1:=RobotAtS_fn s h
  rw [robN_f e] at c1
  have c2:=WidthOfS_nil
  refine fe Tryz.func44 Tryz.ntmps44 Tryz.results44 fun hwf=>?_
  try simp (maxSteps:=9^9) only[go_sem]
  repeat refine AI ?_
  repeat refine AI ?_
  refine cw c1 ?_
  try simp (maxSteps:=9^9) only[go_sem]
  repeat refine AI ?_
  repeat refine AI ?_
  refine cw c2 ?_
  try simp (maxSteps:=9^9) only[go_sem]
  all_goals repeat refine AI ?_
  all_goals first|kernel_rfl|omega|rfl
 ·have es:=(Bool.and_eq_true_iff.1 e).1
  have eh:0<=h/\h<=3:=of_decide_eq_true (Bool.and_eq_true_iff.1 e).2
  have hb:=wid_b es h
  have hl1:=inB_b (scene_p es).low
  have hl2:=inB_b (scene_p es).high
  have hr:=robS_len es h
  have c1:=RobotAtS_fn s h
  rw [robN_t e] at c1
  have c2:=WidthOfS_fn (robS s h) (robS_sm es h).poly
  have hlim:limB s h=(decide ((boxD s h).1.1 < (boxD s h).2.1) && decide ((boxD s h).1.2 < (boxD s h).2.2)):=rfl
  by_cases h1:(boxD s h).1.1 < (boxD s h).2.1
  rotate_left
  ·have el:opnB s h=false:=by rw [opnB_t1 e,hlim,decide_eq_false h1]; rfl
   have d1:=decide_eq_true (p:=s.1.1 - (widD (robS s h)).1.1 ≥ s.2.1.1 - (widD (robS s h)).2.1) (show (boxD s h).2.1<=(boxD s h).1.1 from by omega)
   rw [bxN_f el,el]
   refine fe Tryz.func44 Tryz.ntmps44 Tryz.results44 fun hwf=>?_
   try simp (maxSteps:=9^9) only[go_sem]
   repeat refine AI ?_
   repeat refine AI ?_
   refine cw c1 ?_
   try simp (maxSteps:=9^9) only[go_sem]
   repeat refine AI ?_
   repeat refine AI ?_
   refine cw c2 ?_
   try simp (maxSteps:=9^9) only[go_sem]
   repeat refine AI ?_
   try simp (maxSteps:=9^9) only[go_sem,d1]
   repeat refine AI ?_
   try simp (maxSteps:=9^9) only[go_sem,d1]
   all_goals repeat refine AI ?_
   all_goals first|kernel_rfl|omega|rfl
  have d1:=decide_eq_false (p:=s.1.1 - (widD (robS s h)).1.1 ≥ s.2.1.1 - (widD (robS s h)).2.1) (show ¬ ((boxD s h).2.1<=(boxD s h).1.1) from by omega)
  by_cases h2:(boxD s h).1.2 < (boxD s h).2.2
  rotate_left
  ·have el:opnB s h=false:=by rw [opnB_t1 e,hlim,decide_eq_true h1,decide_eq_false h2]; rfl
   have d2:=decide_eq_true (p:=s.1.2 - (widD (robS s h)).1.2 ≥ s.2.1.2 - (widD (robS s h)).2.2) (show (boxD s h).2.2<=(boxD s h).1.2 from by omega)
   rw [bxN_f el,el]
   refine fe Tryz.func44 Tryz.ntmps44 Tryz.results44 fun hwf=>?_
   try simp (maxSteps:=9^9) only[go_sem]
   repeat refine AI ?_
   repeat refine AI ?_
   refine cw c1 ?_
   try simp (maxSteps:=9^9) only[go_sem]
   repeat refine AI ?_
   repeat refine AI ?_
   refine cw c2 ?_
   try simp (maxSteps:=9^9) only[go_sem]
   repeat refine AI ?_
   try simp (maxSteps:=9^9) only[go_sem,d1,d2]
   repeat refine AI ?_
   try simp (maxSteps:=9^9) only[go_sem,d1,d2]
   all_goals repeat refine AI ?_
   all_goals first|kernel_rfl|omega|rfl
  have d2:=decide_eq_false (p:=s.1.2 - (widD (robS s h)).1.2 ≥ s.2.1.2 - (widD (robS s h)).2.2) (show ¬ ((boxD s h).2.2<=(boxD s h).1.2) from by omega)
  have el:opnB s h=true:=by rw [opnB_t1 e,hlim,decide_eq_true h1,decide_eq_true h2]; rfl
  rw [bxN_t el,el]
  unfold boxD
  refine fe Tryz.func44 Tryz.ntmps44 Tryz.results44 fun hwf=>?_
  try simp (maxSteps:=9^9) only[go_sem]
  repeat refine AI ?_
  repeat refine AI ?_
  refine cw c1 ?_
  try simp (maxSteps:=9^9) only[go_sem]
  repeat refine AI ?_
  repeat refine AI ?_
  refine cw c2 ?_
  try simp (maxSteps:=9^9) only[go_sem]
  repeat refine AI ?_
  try simp (maxSteps:=9^9) only[go_sem,d1,d2]
  repeat refine AI ?_
  try simp (maxSteps:=9^9) only[go_sem,d1,d2]
  all_goals repeat refine AI ?_
  all_goals first|kernel_rfl|omega|rfl
noncomputable def arN (s:DSc) (h:Int):List (List DV):=if sceneB s && hdB h then arsD s h else []
theorem arN_t {s:DSc} {h:Int} (e:(sceneB s && hdB h)=true):arN s h=arsD s h:=if_pos e
theorem arN_f {s:DSc} {h:Int} (e:(sceneB s && hdB h)=false):arN s h=[]:=if_neg (by rw [e]; decide)
noncomputable def arI (s:DSc) (h:Int) (i:Nat):List (List DV):=(s.2.2.2.1.take i).map (obsD (robS s h))
theorem arI_len {s:DSc} {h:Int} {i:Nat} (hi:i<=s.2.2.2.1.length):(arI s h i).length=i:=by unfold arI; rw [List.length_map,List.length_take]; omega
theorem arI_step {s:DSc} {h:Int} {i:Nat} (hi:i < s.2.2.2.1.length):arI s h (i+1)=arI s h i++[obsD (robS s h) (nth (t:=.slice tVec) s.2.2.2.1 i)]:=by
 unfold arI
 rw [List.take_succ_eq_append_getElem hi,List.map_append,nth_lt (t:=.slice tVec) hi]; rfl
theorem arI_all (s:DSc) (h:Int):arI s h s.2.2.2.1.length=arsD s h:=by unfold arI arsD; rw [List.take_length]
set_option maxHeartbeats 1000000 in
theorem BlockedAreasI_fn (s:DSc) (h:Int):Fn Tryz.prog 77 [⟨tScene,s⟩,⟨.int,h⟩] true [⟨tVecSS,arN s h⟩]:=by
 cases e:sceneB s && hdB h
 ·rw [arN_f e]
  have c1:=RobotAtI_nil s h e
  refine fe Tryz.func77 Tryz.ntmps77 Tryz.results77 fun hwf=>?_
  try simp (maxSteps:=9^9) only[go_sem]
  repeat refine AI ?_
  repeat refine AI ?_
  refine cw c1 ?_
  try simp (maxSteps:=9^9) only[go_sem]
  all_goals repeat refine AI ?_
  all_goals first|kernel_rfl|omega|rfl
 ·have es:=(Bool.and_eq_true_iff.1 e).1
  have eh:0<=h/\h<=3:=of_decide_eq_true (Bool.and_eq_true_iff.1 e).2
  have hr:=robS_len es h
  have hno:=(scene_p es).nobs
  have c1:=(RobotAtI_fn s h es eh).sh
  rw [arN_t e]
  refine fe Tryz.func77 Tryz.ntmps77 Tryz.results77 fun hwf=>?_
  try simp (maxSteps:=9^9) only[go_sem]
  repeat refine AI ?_
  repeat refine AI ?_
  refine cw c1 ?_
  try simp (maxSteps:=9^9) only[go_sem]
  repeat refine AI ?_
  refine NilW.non (by intro e0; rw [e0] at hr; simp at hr) ?_
  try simp (maxSteps:=9^9) only[go_sem]
  repeat refine AI ?_
  refine LoopG.intro _ _ _ (fun i:Nat=>⟨[(5,.sl tVec (robS s h)),(6,.row 1 0),(16,.sl (.slice tVec) s.2.2.2.1),(17,.sc (.int .i64 s.2.2.2.1.length)),(18,.sc (.int .i64 i))],[(1,.row 37 (.slice tVec) 0 true (arI s h i))]⟩) (fun i=>i<=s.2.2.2.1.length) (fun i=>s.2.2.2.1.length - i) 0 ?_ (Nat.zero_le _) ?_
  ·exact WK
  ·rintro i hi
   try simp (maxSteps:=9^9) only[go_sem]
   refine CondW_dec (fun hA=>?_) (fun hA=>?_)
   ·have hlt:i < s.2.2.2.1.length:=by omega
    have hal:=arI_len (s:=s) (h:=h) hi
    have c2:=ObstacleForI_fn (robS s h) (nth (t:=.slice tVec) s.2.2.2.1 i) (robS_sm es h) ((scene_p es).obs _ (nth_memT (t:=.slice tVec) hlt)) (by decide)
    try simp (maxSteps:=9^9) only[go_sem]
    repeat refine AI ?_
    repeat refine AI ?_
    refine cw c2 ?_
    try simp (maxSteps:=9^9) only[go_sem]
    try simp (maxSteps:=9^9) only[go_sem,hal]
    repeat refine AI ?_
    refine LoopK.mk (i+1) ?_ (by omega) (by omega)
    rw [arI_step hlt]
    exact WK
   ·rw [show arsD s h=arI s h i by rw [show i=s.2.2.2.1.length by omega,arI_all]]
    try simp (maxSteps:=9^9) only[go_sem]
    all_goals repeat refine AI ?_
    all_goals first|kernel_rfl|omega|rfl
set_option maxHeartbeats 1000000 in
theorem BlockedAreasS_fn (s:DSc) (h:Int):Fn Tryz.prog 45 [⟨tScene,s⟩,⟨.int,h⟩] true [⟨tVecSS,arN s h⟩]:=by
 cases e:sceneB s && hdB h
 ·rw [arN_f e]
  have c1:=(RobotAtS_fn s h).sh
  rw [robN_f e] at c1
  have d0:=decide_eq_true (p:=((0:Nat):Int)=0) rfl
  refine fe Tryz.func45 Tryz.ntmps45 Tryz.results45 fun hwf=>?_
  try simp (maxSteps:=9^9) only[go_sem]
  repeat refine AI ?_
  repeat refine AI ?_
  refine cw c1 ?_
  try simp (maxSteps:=9^9) only[go_sem]
  try simp (maxSteps:=9^9) only[go_sem,d0]
  all_goals repeat refine AI ?_
  all_goals first|kernel_rfl|omega|rfl
 ·have es:=(Bool.and_eq_true_iff.1 e).1
  have eh:0<=h/\h<=3:=of_decide_eq_true (Bool.and_eq_true_iff.1 e).2
  have hr:=robS_len es h
  have hno:=(scene_p es).nobs
  have c1:=(RobotAtS_fn s h).sh
  rw [robN_t e] at c1
  have d0:=decide_eq_false (p:=((robS s h).length:Int)=0) (by omega)
  rw [arN_t e]
  refine fe Tryz.func45 Tryz.ntmps45 Tryz.results45 fun hwf=>?_
  try simp (maxSteps:=9^9) only[go_sem]
  repeat refine AI ?_
  repeat refine AI ?_
  refine cw c1 ?_
  try simp (maxSteps:=9^9) only[go_sem]
  repeat refine AI ?_
  try simp (maxSteps:=9^9) only[go_sem,d0]
  repeat refine AI ?_
  refine LoopG.intro _ _ _ (fun i:Nat=>⟨[(5,.row 1 0),(6,.sl tVec (robS s h)),(17,.sl (.slice tVec) s.2.2.2.1),(18,.sc (.int .i64 s.2.2.2.1.length)),(19,.sc (.int .i64 i))],[(1,.row 37 (.slice tVec) 0 true (arI s h i))]⟩) (fun i=>i<=s.2.2.2.1.length) (fun i=>s.2.2.2.1.length - i) 0 ?_ (Nat.zero_le _) ?_
  ·exact WK
  ·rintro i hi
   try simp (maxSteps:=9^9) only[go_sem]
   refine CondW_dec (fun hA=>?_) (fun hA=>?_)
   ·have hlt:i < s.2.2.2.1.length:=by omega
    have hal:=arI_len (s:=s) (h:=h) hi
    have c2:=ObstacleForS_fn (robS s h) (nth (t:=.slice tVec) s.2.2.2.1 i) (robS_sm es h) ((scene_p es).obs _ (nth_memT (t:=.slice tVec) hlt)) (by decide)
    try simp (maxSteps:=9^9) only[go_sem]
    repeat refine AI ?_
    repeat refine AI ?_
    refine cw c2 ?_
    try simp (maxSteps:=9^9) only[go_sem]
    try simp (maxSteps:=9^9) only[go_sem,hal]
    repeat refine AI ?_
    refine LoopK.mk (i+1) ?_ (by omega) (by omega)
    rw [arI_step hlt]
    exact WK
   ·rw [show arsD s h=arI s h i by rw [show i=s.2.2.2.1.length by omega,arI_all]]
    try simp (maxSteps:=9^9) only[go_sem]
    all_goals repeat refine AI ?_
    all_goals first|kernel_rfl|omega|rfl
noncomputable def chgH (r:DRd) (s:DSc):List Int:=if sceneB s=true then chgD (frmE (opnB s) (bxN s) (arN s)) r.2.1 4 else []
theorem chgH_len (r:DRd) (s:DSc):(chgH r s).length<=4:=by
 unfold chgH
 split
 ·exact chgD_len _ _ 4
 ·exact Nat.zero_le _
theorem ChangedI_fn (r:DRd) (s:DSc):Fn Tryz.prog 9 [⟨tRoad,r⟩,⟨tScene,s⟩] true [⟨tInts,chgH r s⟩] :=
 ChangedI_g r (IsValidSceneI_fn s) (emptySlice_fn (fun h e=>bxN_f e) (LimitsOfI_fn s) (BlockedAreasI_fn s))
theorem ChangedS_fn (r:DRd) (s:DSc):Fn Tryz.prog 6 [⟨tRoad,r⟩,⟨tScene,s⟩] true [⟨tInts,chgH r s⟩] :=
 ChangedS_g r (IsValidSceneS_fn s) (l25Fits_fn (fun h e=>bxN_f e) (LimitsOfS_fn s) (BlockedAreasS_fn s))
set_option maxHeartbeats 8000000 in
theorem lawChangedHeadings_fn (x0:DRoad) (x1:DScene):Fn Tryz.prog 3 [⟨DW.tRoad,x0⟩,⟨DW.tScene,x1⟩] false [⟨.bool,true⟩]:=by
 refine fe Tryz.func3 Tryz.ntmps3 Tryz.results3 fun hwf=>?_
 try simp (maxSteps:=9^9) only[go_sem]
 repeat refine AI ?_
 refine cw (szRoad_fn x0 1048576 (by omega) (by omega)) ?_
 try simp (maxSteps:=9^9) only[go_sem]
 repeat refine AI ?_
 have hr0:=szr_lo 1048576 (Go.Proofs.YtpdiggaapdhffaaGreat.tRoad x0) (by omega)
 refine CondW_dec (fun hlt=>?_) (fun hge0=>?_)
 ·try simp (maxSteps:=9^9) only[go_sem]
 have hge0':0<=szr 1048576 (Go.Proofs.YtpdiggaapdhffaaGreat.tRoad x0):=by omega
 try simp (maxSteps:=9^9) only[go_sem]
 repeat refine AI ?_
 refine cw (szScene_fn x1 (szr 1048576 (Go.Proofs.YtpdiggaapdhffaaGreat.tRoad x0)) (by omega) (by omega)) ?_
 try simp (maxSteps:=9^9) only[go_sem]
 repeat refine AI ?_
 have hr1:=szr_lo (szr 1048576 (Go.Proofs.YtpdiggaapdhffaaGreat.tRoad x0)) (Go.Proofs.YtpdiggaapdhffaaGreat.tScene x1) (by omega)
 refine CondW_dec (fun hlt=>?_) (fun hge1=>?_)
 ·try simp (maxSteps:=9^9) only[go_sem]
 have hge1':0<=szr (szr 1048576 (Go.Proofs.YtpdiggaapdhffaaGreat.tRoad x0)) (Go.Proofs.YtpdiggaapdhffaaGreat.tScene x1):=by omega
 have hs0:=(szr_ok hge0').1
 have hs1:=(szr_ok hge1').1
 have hle0:Go.Proofs.YtpdiggaapdhffaaGreat.tRoad x0<=1048576:=by omega
 have hle1:Go.Proofs.YtpdiggaapdhffaaGreat.tScene x1<=1048576:=by omega
 clear hr0 hs0 hge0 hge0' hr1 hs1 hge1 hge1'
 try simp (maxSteps:=9^9) only[go_sem]
 repeat refine AI ?_
 refine cw (toRoad_fn x0 hle0) ?_
 try simp (maxSteps:=9^9) only[go_sem]
 repeat refine AI ?_
 refine cw (toScene_fn x1 hle1) ?_
 try simp (maxSteps:=9^9) only[go_sem]
 repeat refine AI ?_
 refine cw (ChangedS_fn x0 x1) ?_
 try simp (maxSteps:=9^9) only[go_sem]
 repeat refine AI ?_
 refine CallW.mx (toRoad_fn x0 hle0) ?_
 try simp (maxSteps:=9^9) only[go_sem]
 repeat refine AI ?_
 refine CallW.mx (toScene_fn x1 hle1) ?_
 try simp (maxSteps:=9^9) only[go_sem]
 repeat refine AI ?_
 refine CallW.mx (ChangedI_fn x0 x1) ?_
 try simp (maxSteps:=9^9) only[go_sem]
 repeat refine AI ?_
 refine CallW.mx (eqIntS_fn (chgH x0 x1) (chgH x0 x1)) ?_
 try simp (maxSteps:=9^9) only[go_sem]
 repeat refine AI ?_
 refine cw (toRoad_fn x0 hle0) ?_
 try simp (maxSteps:=9^9) only[go_sem]
 repeat refine AI ?_
 refine CallW.mx (eqRoad_fn x0 x0) ?_
 try simp (maxSteps:=9^9) only[go_sem]
 repeat refine AI ?_
 refine cw (toScene_fn x1 hle1) ?_
 try simp (maxSteps:=9^9) only[go_sem]
 repeat refine AI ?_
 refine CallW.mx (eqScene_fn x1 x1) ?_
 try simp (maxSteps:=9^9) only[go_sem]
 have hc0:Go.Proofs.YtpdiggaapdhffaaGreat.cnRoad x0<=7340032:=by have:=Go.Proofs.YtpdiggaapdhffaaGreat.cnRoad_le x0; omega
 repeat refine AI ?_
 refine CallW.m (markRoad_fn x0 1 (by omega) (by omega)) ?_
 try simp (maxSteps:=9^9) only[go_sem]
 have hc1:Go.Proofs.YtpdiggaapdhffaaGreat.cnScene x1<=3145728:=by have:=Go.Proofs.YtpdiggaapdhffaaGreat.cnScene_le x1; omega
 repeat refine AI ?_
 refine CallW.m (markScene_fn x1 (1+(Go.Proofs.YtpdiggaapdhffaaGreat.cnRoad x0:Nat)) (by omega) (by omega)) ?_
 try simp (maxSteps:=9^9) only[go_sem]
 have hkf:decide ((1:Int)+(Go.Proofs.YtpdiggaapdhffaaGreat.cnRoad x0:Int)+(Go.Proofs.YtpdiggaapdhffaaGreat.cnScene x1:Int) < 0)=false:=decide_eq_false (by omega)
 try simp (maxSteps:=9^9) only[go_sem,hkf]
 repeat refine AI ?_
 refine CallW.mx (eqIntS_fn (chgH x0 x1) (chgH x0 x1)) ?_
 try simp (maxSteps:=9^9) only[go_sem]
 have hcg:=chgH_len x0 x1
 repeat refine AI ?_
 refine CallW.m (markIntS_fn (chgH x0 x1) 1 (by omega) (by omega)) ?_
 try simp (maxSteps:=9^9) only[go_sem]
 repeat refine AI ?_
 refine CallW.mx (heldIntS_fn (chgH x0 x1) 1 (by omega) (by omega)) ?_
 try simp (maxSteps:=9^9) only[go_sem]
 repeat refine AI ?_
 refine CondW_dec (fun hlt=>absurd hlt (by omega)) (fun _=>?_)
 try simp (maxSteps:=9^9) only[go_sem]
 repeat refine AI ?_
 refine cw (toRoad_fn x0 hle0) ?_
 try simp (maxSteps:=9^9) only[go_sem]
 repeat refine AI ?_
 refine cw (toScene_fn x1 hle1) ?_
 try simp (maxSteps:=9^9) only[go_sem]
 repeat refine AI ?_
 refine CallW.mx (ChangedI_fn x0 x1) ?_
 try simp (maxSteps:=9^9) only[go_sem]
 repeat refine AI ?_
 refine CallW.mx (eqIntS_fn (chgH x0 x1) (chgH x0 x1)) ?_
 try simp (maxSteps:=9^9) only[go_sem]
 repeat refine AI ?_
 refine CallW.mx (heldIntS_fn (chgH x0 x1) 1 (by omega) (by omega)) ?_
 try simp (maxSteps:=9^9) only[go_sem]
 repeat refine AI ?_
 refine CondW_dec (fun hlt=>absurd hlt (by omega)) (fun _=>?_)
 try simp (maxSteps:=9^9) only[go_sem]
end Go.Proofs.YtpdiggaapdhffaaGreat.DW
namespace Go.Proofs.YtpdiggaapdhffaaGreat
open Go.RowKit DW
theorem law_FnExactChangedHeadings (a0_0 a0_1 a0_2 a0_3 a0_4 a0_5 a0_6 a0_7 a0_8 a0_9:Value) (x0:DRoad) (a1_0 a1_1 a1_2 a1_3 a1_4 a1_5 a1_6:Value) (x1:DScene) (w:World) (hx0:Has RRoad w [a0_0,a0_1,a0_2,a0_3,a0_4,a0_5,a0_6,a0_7,a0_8,a0_9] x0) (hx1:Has RScene w [a1_0,a1_1,a1_2,a1_3,a1_4,a1_5,a1_6] x1) :
  Calls Tryz.prog 3 #[.agg #[a0_0,a0_1,a0_2,a0_3,a0_4,a0_5,a0_6,a0_7,a0_8,a0_9],.agg #[a1_0,a1_1,a1_2,a1_3,a1_4,a1_5,a1_6]] w (Post fun r w'=>r=.bool true/\Below w.heap.size w w') :=
 (DW.lawChangedHeadings_fn x0 x1).bool (vs:=[.agg #[a0_0,a0_1,a0_2,a0_3,a0_4,a0_5,a0_6,a0_7,a0_8,a0_9],.agg #[a1_0,a1_1,a1_2,a1_3,a1_4,a1_5,a1_6]]) ⟨Arg.agg (t:=DW.tRoad) (cs:=[a0_0,a0_1,a0_2,a0_3,a0_4,a0_5,a0_6,a0_7,a0_8,a0_9]) rfl hx0,Arg.agg (t:=DW.tScene) (cs:=[a1_0,a1_1,a1_2,a1_3,a1_4,a1_5,a1_6]) rfl hx1,trivial⟩
end Go.Proofs.YtpdiggaapdhffaaGreat
