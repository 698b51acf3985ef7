/-
  Texts of a proof, one behind another: MarkT, MarkS, Dw73, LawMoveClearance.
-/
import Derived.Test.YtffdhjnbppagjaaGreatKB6
set_option linter.all false
namespace Go.Proofs.YtffdhjnbppagjaaGreat
open Go.RowKit
def ecVec (x:DVec):Nat:=1+1
def emVec (x:DVec) (k:Int):DVec:=(k,k+1)
def cnVecS:DVecS->Nat
 | []=>0
 | x :: l=>ecVec x+cnVecS l
theorem cnVecS_snoc (l:DVecS) (x:DVec):cnVecS (l++[x])=cnVecS l+ecVec x:=by
 induction l with
 | nil=>simp [cnVecS]
 | cons y l ih=>simp [cnVecS,ih]; omega
theorem cnVecS_take (l:DVecS) (k:Nat):cnVecS (l.take k)<=cnVecS l:=by
 induction l generalizing k with
 | nil=>simp [cnVecS]
 | cons y l ih=>cases k with
  | zero=>simp [cnVecS]
  | succ k=>have:=ih k; simp [cnVecS]; omega
def mkVecS:DVecS->Int->DVecS
 | [],_=>[]
 | x :: l,k=>emVec x k :: mkVecS l (k+ecVec x)
theorem mkVecS_len (l:DVecS) (k:Int):(mkVecS l k).length=l.length:=by
 induction l generalizing k with
 | nil=>rfl
 | cons y l ih=>simp [mkVecS,ih]
theorem mkVecS_snoc (l:DVecS) (x:DVec) (k:Int):mkVecS (l++[x]) k=mkVecS l k++[emVec x (k+cnVecS l)]:=by
 induction l generalizing k with
 | nil=>simp [mkVecS,cnVecS]
 | cons y l ih=>simp only [List.cons_append,mkVecS,ih,cnVecS]; rw [show k+(ecVec y:Int)+(cnVecS l:Int)=k+((ecVec y+cnVecS l:Nat):Int) from by omega]
def mkTour (x:DTour) (k:Int):DTour:=(mkVecS x.1 k,mkPlacement x.2.1 (k+cnVecS x.1),mkStepS x.2.2 (k+cnVecS x.1+cnPlacement x.2.1))
set_option maxRecDepth 100000 in
set_option maxHeartbeats 1000000 in
theorem markVecS_any (v:Value) (x:DVecS) (k:Int) (fp:List Nat) (w:World) (hx:RVecS.rep w [v] x fp) (hn:fp.Nodup) (hf:∀ b ∈ fp,Free w b) (h0:0<=k) (h1:k+cnVecS x<=1073741824) :
  Calls Tryz.prog 88 #[v,.int .i64 k] w (Post (MarkPost RVecS [v] (mkVecS x k) fp (k+cnVecS x) w)):=by
 obtain ⟨ad,c,hv,hlc,hm,hh⟩:=hx
 injection hv with hv
 subst hv
 unfold maxLen at hm
 rcases hh with ⟨rfl,rfl⟩|⟨b,off,fps,hl,rfl,rfl,he⟩
 ·go_enter Tryz.func88,Tryz.ntmps88
  go_wp2
  go_loopw [1,5] (fun kk i wr=>i=.int .i64 0/\kk=.int .i64 k/\wr=w) (fun _ _ _=>0)
  case atStart=>exact ⟨rfl,rfl,rfl⟩
  case round =>
   obtain ⟨rfl,rfl,rfl⟩:=hrel
   go_wp2
   go_ret
   exact ⟨_,rfl,congrArg (Value.int .i64) (by simp [cnVecS]),⟨ad,c,rfl,hlc,by unfold maxLen; omega,.inl ⟨rfl,rfl⟩⟩,Upto.refl _ _⟩
 have HN:=Lib.hid hn; have HF:=Lib.hid hf; have HE:=Lib.hid he; have HL:=Lib.hid hl; clear hn hf he hl
 go_enter Tryz.func88,Tryz.ntmps88
 go_wp2
 go_loopw [1,5] (fun kk i wr=>∃ j:Nat,j<=x.length/\i=.int .i64 j/\kk=.int .i64 (k+(cnVecS (x.take j):Nat))/\Elems RVec wr b off (mkVecS (x.take j) k++x.drop j) fps/\Upto (b :: fps.flatten) w wr) (fun _ i _=>x.length - (intOf i).toNat)
 case atStart=>exact ⟨0,Nat.zero_le _,rfl,congrArg (Value.int .i64) (by simp [cnVecS]),by simpa [mkVecS] using HE.out,Upto.refl _ _⟩
 case round =>
  obtain ⟨j,hj,rfl,rfl,hE,hU⟩:=hrel
  have HEr:=Lib.hid hE; have HU:=Lib.hid hU; clear hE hU
  by_cases hjl:j < x.length
  rotate_left
  ·obtain rfl:j=x.length:=by omega
   go_wp2
   go_ret
   have h:=HEr.out
   rw [List.take_length,List.drop_length,List.append_nil] at h
   have hml:=mkVecS_len x k
   exact ⟨_,rfl,congrArg (Value.int .i64) (by rw [List.take_length]),⟨_,c,by rw [hml],by rw [hml]; exact hlc,by unfold maxLen; omega,.inr ⟨b,off,fps,fun e=>HL.out (List.eq_nil_of_length_eq_zero (by rw [<-hml,e]; rfl)),rfl,rfl,h⟩⟩,HU.out⟩
  have hml:(mkVecS (x.take j) k).length=j:=by rw [mkVecS_len,List.length_take]; omega
  have hget:(mkVecS (x.take j) k++x.drop j)[j]? = some x[j]:=by rw [List.getElem?_append_right (by omega),hml]; simp
  obtain ⟨f,cs,hfj,hr,hcs⟩:=HEr.out.2 j _ hget
  have hfr:=HU.out.free b List.mem_cons_self (HF.out b List.mem_cons_self)
  have hbf:b ∉ f:=fun h=>(List.nodup_cons.1 HN.out).1 (flat_mem hfj b h)
  have hff:∀ z ∈ f,Free wr z:=fun z hz=>HU.out.free z (List.mem_cons_of_mem _ (flat_mem hfj z hz)) (HF.out z (List.mem_cons_of_mem _ (flat_mem hfj z hz)))
  have hfn:f.Nodup:=(List.pairwise_flatten.1 (List.nodup_cons.1 HN.out).2).1 f (List.mem_of_getElem? hfj)
  have hec:cnVecS (x.take j)+ecVec x[j]=cnVecS (x.take (j+1)):=by rw [List.take_succ_eq_append_getElem hjl,cnVecS_snoc]
  have hect:=cnVecS_take x (j+1)
  obtain ⟨q,hq⟩:∃ q:Int,q=k+(cnVecS (x.take j):Nat):=⟨_,rfl⟩
  have hq0:0<=q:=by omega
  have hq1:q+(ecVec x[j]:Nat)<=1073741824:=by omega
  rw [<-hq]
  have HQ:=Lib.hid hq; have HEC:=Lib.hid hec; have HML:=Lib.hid hml; have HFJ:=Lib.hid hfj
  clear hq hec hml hget hfj hect
  obtain ⟨c0,c1,rfl⟩:=list2 (RVec.len hr)
  obtain ⟨f0,f1,rfl,hp0,hp1⟩:=rep_split [c0] [c1] rfl hr
  obtain ⟨he0,rfl,hI0⟩:=hp0
  injection he0 with he0; subst he0
  obtain ⟨he1,rfl,hI1⟩:=hp1
  injection he1 with he1; subst he1
  have hnd:=hfn
  simp only [List.nil_append,List.append_assoc] at hnd
  have HFF:=Lib.hid hff; have HBF:=Lib.hid hbf; clear hff hbf hfn
  have nd0:=hnd
  have hqe:=hq1; simp only [ecVec] at hqe
  have hbl0:b < wr.heap.size:=hfr.lt
  have g0:wr.cell? ⟨b,off+j * 2,none⟩=some (Value.int .i64 x[j].1):=hcs 0 _ rfl
  have g1:wr.cell? ⟨b,off+j * 2+1,none⟩=some (Value.int .i64 x[j].2):=hcs 1 _ rfl
  have hfz:=hfr.frozen
  have HT0:=Lib.hid (Upto.refl (b :: ([]++[])) wr)
  clear hcs hfr
  go_wp2
  go_roundw
  case rel =>
   have hBe:Upto [b] wr _:=(((Upto.refl [b] wr).setCell (p:=⟨b,off+j * 2,none⟩) List.mem_cons_self (Value.int .i64 (q))).setCell (p:=⟨b,off+j * 2+1,none⟩) List.mem_cons_self (Value.int .i64 (q+1)))
   have e0:((wr.setCell ⟨b,off+j * 2,none⟩ (Value.int .i64 (q))).setCell ⟨b,off+j * 2+1,none⟩ (Value.int .i64 (q+1))).cell? ⟨b,off+j * 2,none⟩=some (Value.int .i64 (q)):=by simp [go_sem,g0]
   have e1:((wr.setCell ⟨b,off+j * 2,none⟩ (Value.int .i64 (q))).setCell ⟨b,off+j * 2+1,none⟩ (Value.int .i64 (q+1))).cell? ⟨b,off+j * 2+1,none⟩=some (Value.int .i64 (q+1)):=by simp [go_sem,g1]
   have hup:=HEr.out.update (w':=((wr.setCell ⟨b,off+j * 2,none⟩ (Value.int .i64 (q))).setCell ⟨b,off+j * 2+1,none⟩ (Value.int .i64 (q+1)))) (x':=emVec x[j] q) (cs':=[(Value.int .i64 (q)),(Value.int .i64 (q+1))]) HN.out HFJ.out (rep_pair (rep_int [] (by first|rfl|(simp only [ecVec]; omega)) (by constructor<;>omega)) (rep_int [] (by first|rfl|(simp only [ecVec]; omega)) (by constructor<;>omega))) (cells_cons e0 (cells_cons e1 cells_nil))
    (fun z hz hzb hzf=>(((HT0.out.setCell (p:=⟨b,off+j * 2,none⟩) List.mem_cons_self (Value.int .i64 (q))).setCell (p:=⟨b,off+j * 2+1,none⟩) List.mem_cons_self (Value.int .i64 (q+1)))).block z hz (by rw [List.mem_cons]; exact fun h=>h.elim hzb hzf))
    (fun o ho=>have ho:o < off+j * 2\/off+j * 2+2<=o:=by have h1:(j+1) * 2=j * 2+2:=Nat.succ_mul _ _; have h2:o < off+j * 2\/off+(j+1) * 2<=o:=ho; omega
     ((setCell_out (Value.int .i64 (q+1)) (by omega)).trans ((setCell_out (Value.int .i64 (q)) (by omega)).trans rfl)))
   have e:(mkVecS (x.take j) k++x.drop j).set j (emVec x[j] q)=mkVecS (x.take (j+1)) k++x.drop (j+1):=by
    rw [List.set_append_right _ _ (by rw [HML.out]; exact Nat.le_refl _),HML.out,Nat.sub_self,List.drop_eq_getElem_cons hjl,List.set_cons_zero,List.take_succ_eq_append_getElem hjl,mkVecS_snoc,<-HQ.out]
    simp
   rw [e] at hup
   refine ⟨j+1,by omega,by go_num,congrArg (Value.int .i64) ?_,hup,HU.out.trans ((((HT0.out.setCell (p:=⟨b,off+j * 2,none⟩) List.mem_cons_self (Value.int .i64 (q))).setCell (p:=⟨b,off+j * 2+1,none⟩) List.mem_cons_self (Value.int .i64 (q+1)))).mono ?_)⟩
   ·have h1:=HQ.out; have h2:=HEC.out; simp only [ecVec] at h2; omega
   ·intro z hz; rcases List.mem_cons.1 hz with rfl|hz; exact List.mem_cons_self; exact List.mem_cons_of_mem _ (flat_mem HFJ.out z hz)
  case measure=>simp [intOf]; omega
namespace DW
@[go_sem] theorem mkTour_sc0 (x:DTour) (k:Int):(mkTour x k).2.1.1=x.2.1.1:=(rfl)
@[go_sem] theorem mkTour_sc1 (x:DTour) (k:Int):(mkTour x k).2.1.2.1.1.1=x.2.1.2.1.1.1:=(rfl)
@[go_sem] theorem mkTour_sc2 (x:DTour) (k:Int):(mkTour x k).2.1.2.2.1.1=x.2.1.2.2.1.1:=(rfl)
theorem cnVecS_le (x:DVecS):cnVecS x=2 * x.length:=by
 induction x with
 | nil=>rfl
 | cons y l ih=>rw [cnVecS,ih,List.length_cons]; unfold ecVec; omega
end DW
end Go.Proofs.YtffdhjnbppagjaaGreat

namespace Go.Proofs.YtffdhjnbppagjaaGreat
open Go.RowKit
def cnVecSS:DVecSS->Nat
 | []=>0
 | x :: l=>cnVecS x+cnVecSS l
theorem cnVecSS_snoc (l:DVecSS) (x:DVecS):cnVecSS (l++[x])=cnVecSS l+cnVecS x:=by
 induction l with
 | nil=>simp [cnVecSS]
 | cons y l ih=>simp [cnVecSS,ih]; omega
theorem cnVecSS_take (l:DVecSS) (k:Nat):cnVecSS (l.take k)<=cnVecSS l:=by
 induction l generalizing k with
 | nil=>simp [cnVecSS]
 | cons y l ih=>cases k with
  | zero=>simp [cnVecSS]
  | succ k=>have:=ih k; simp [cnVecSS]; omega
def mkVecSS:DVecSS->Int->DVecSS
 | [],_=>[]
 | x :: l,k=>mkVecS x k :: mkVecSS l (k+cnVecS x)
theorem mkVecSS_len (l:DVecSS) (k:Int):(mkVecSS l k).length=l.length:=by
 induction l generalizing k with
 | nil=>rfl
 | cons y l ih=>simp [mkVecSS,ih]
theorem mkVecSS_snoc (l:DVecSS) (x:DVecS) (k:Int):mkVecSS (l++[x]) k=mkVecSS l k++[mkVecS x (k+cnVecSS l)]:=by
 induction l generalizing k with
 | nil=>simp [mkVecSS,cnVecSS]
 | cons y l ih=>simp only [List.cons_append,mkVecSS,ih,cnVecSS]; rw [show k+(cnVecS y:Int)+(cnVecSS l:Int)=k+((cnVecS y+cnVecSS l:Nat):Int) from by omega]
def cnScene (x:DScene):Nat:=cnVecS x.2.2.1+cnVecSS x.2.2.2.1+cnVecS x.2.2.2.2
def mkScene (x:DScene) (k:Int):DScene:=(x.1,x.2.1,mkVecS x.2.2.1 k,mkVecSS x.2.2.2.1 (k+cnVecS x.2.2.1),mkVecS x.2.2.2.2 (k+cnVecS x.2.2.1+cnVecSS x.2.2.2.1))
set_option maxHeartbeats 400000 in
theorem markVecSS_any (v:Value) (x:DVecSS) (k:Int) (fp:List Nat) (w:World) (hx:RVecSS.rep w [v] x fp) (hn:fp.Nodup) (hf:∀ b ∈ fp,Free w b) (h0:0<=k) (h1:k+cnVecSS x<=1073741824) :
  Calls Tryz.prog 89 #[v,.int .i64 k] w (Post (MarkPost RVecSS [v] (mkVecSS x k) fp (k+cnVecSS x) w)):=by
 obtain ⟨ad,c,hv,hlc,hm,hh⟩:=hx
 injection hv with hv
 subst hv
 unfold maxLen at hm
 rcases hh with ⟨rfl,rfl⟩|⟨b,off,fps,hl,rfl,rfl,he⟩
 ·go_enter Tryz.func89,Tryz.ntmps89
  go_wp2
  go_loopw [1,5] (fun kk i wr=>i=.int .i64 0/\kk=.int .i64 k/\wr=w) (fun _ _ _=>0)
  case atStart=>exact ⟨rfl,rfl,rfl⟩
  case round =>
   obtain ⟨rfl,rfl,rfl⟩:=hrel
   go_wp2
   go_ret
   exact ⟨_,rfl,congrArg (Value.int .i64) (by simp [cnVecSS]),⟨ad,c,rfl,hlc,by unfold maxLen; omega,.inl ⟨rfl,rfl⟩⟩,Upto.refl _ _⟩
 have HN:=Lib.hid hn; have HF:=Lib.hid hf; have HE:=Lib.hid he; have HL:=Lib.hid hl; clear hn hf he hl
 go_enter Tryz.func89,Tryz.ntmps89
 go_wp2
 go_loopw [1,5] (fun kk i wr=>∃ j:Nat,j<=x.length/\i=.int .i64 j/\kk=.int .i64 (k+(cnVecSS (x.take j):Nat))/\Elems RVecS wr b off (mkVecSS (x.take j) k++x.drop j) fps/\Upto (b :: fps.flatten) w wr) (fun _ i _=>x.length - (intOf i).toNat)
 case atStart=>exact ⟨0,Nat.zero_le _,rfl,congrArg (Value.int .i64) (by simp [cnVecSS]),by simpa [mkVecSS] using HE.out,Upto.refl _ _⟩
 case round =>
  obtain ⟨j,hj,rfl,rfl,hE,hU⟩:=hrel
  have HEr:=Lib.hid hE; have HU:=Lib.hid hU; clear hE hU
  by_cases hjl:j < x.length
  rotate_left
  ·obtain rfl:j=x.length:=by omega
   go_wp2
   go_ret
   have h:=HEr.out
   rw [List.take_length,List.drop_length,List.append_nil] at h
   have hml:=mkVecSS_len x k
   exact ⟨_,rfl,congrArg (Value.int .i64) (by rw [List.take_length]),⟨_,c,by rw [hml],by rw [hml]; exact hlc,by unfold maxLen; omega,.inr ⟨b,off,fps,fun e=>HL.out (List.eq_nil_of_length_eq_zero (by rw [<-hml,e]; rfl)),rfl,rfl,h⟩⟩,HU.out⟩
  have hml:(mkVecSS (x.take j) k).length=j:=by rw [mkVecSS_len,List.length_take]; omega
  have hget:(mkVecSS (x.take j) k++x.drop j)[j]? = some x[j]:=by rw [List.getElem?_append_right (by omega),hml]; simp
  obtain ⟨f,cs,hfj,hr,hcs⟩:=HEr.out.2 j _ hget
  have hfr:=HU.out.free b List.mem_cons_self (HF.out b List.mem_cons_self)
  have hbf:b ∉ f:=fun h=>(List.nodup_cons.1 HN.out).1 (flat_mem hfj b h)
  have hff:∀ z ∈ f,Free wr z:=fun z hz=>HU.out.free z (List.mem_cons_of_mem _ (flat_mem hfj z hz)) (HF.out z (List.mem_cons_of_mem _ (flat_mem hfj z hz)))
  have hfn:f.Nodup:=(List.pairwise_flatten.1 (List.nodup_cons.1 HN.out).2).1 f (List.mem_of_getElem? hfj)
  have hec:cnVecSS (x.take j)+cnVecS x[j]=cnVecSS (x.take (j+1)):=by rw [List.take_succ_eq_append_getElem hjl,cnVecSS_snoc]
  have hect:=cnVecSS_take x (j+1)
  obtain ⟨q,hq⟩:∃ q:Int,q=k+(cnVecSS (x.take j):Nat):=⟨_,rfl⟩
  have hq0:0<=q:=by omega
  have hq1:q+(cnVecS x[j]:Nat)<=1073741824:=by omega
  rw [<-hq]
  have HQ:=Lib.hid hq; have HEC:=Lib.hid hec; have HML:=Lib.hid hml; have HFJ:=Lib.hid hfj
  clear hq hec hml hget hfj hect
  obtain ⟨c0,rfl⟩:=list1 (RVecS.len hr)
  have HR:=Lib.hid hr; have HFF:=Lib.hid hff; have HBF:=Lib.hid hbf; have HFN:=Lib.hid hfn; clear hr hff hbf hfn
  have hbl0:b < wr.heap.size:=hfr.lt
  have g0:wr.cell? ⟨b,off+j,none⟩=some c0:=by simpa [Rp.slice] using hcs 0 _ rfl
  have hl0:(0:Int)<=(cnVecS x[j]:Nat):=Int.natCast_nonneg _
  clear hcs hfr
  go_wp2_with fail
  refine (markVecS_any _ _ _ f _ HR.out HFN.out HFF.out (by omega) (by omega)).mono ?_
  rintro e w1 ⟨v,rfl,rfl,hmm,hu1⟩
  have HMM:=Lib.hid hmm; have HU1:=Lib.hid hu1
  have hcb1:=hu1.cell (b:=b) hbl0 HBF.out
  clear hmm hu1
  go_wp2
  go_roundw
  case rel =>
   have e0:w1.cell? ⟨b,off+j,none⟩=some c0:=by simp [go_sem,hcb1,g0]
   have hup:=HEr.out.update (w':=w1) (x':=mkVecS x[j] q) (cs':=[c0]) HN.out HFJ.out HMM.out (cells_cons (by simpa [Rp.slice] using e0) cells_nil)
    (fun z hz _ hzf=>HU1.out.block z hz hzf)
    (fun o _=>hcb1 o)
   have e:(mkVecSS (x.take j) k++x.drop j).set j (mkVecS x[j] q)=mkVecSS (x.take (j+1)) k++x.drop (j+1):=by
    rw [List.set_append_right _ _ (by rw [HML.out]; exact Nat.le_refl _),HML.out,Nat.sub_self,List.drop_eq_getElem_cons hjl,List.set_cons_zero,List.take_succ_eq_append_getElem hjl,mkVecSS_snoc,<-HQ.out]
    simp
   rw [e] at hup
   refine ⟨j+1,by omega,by go_num,congrArg (Value.int .i64) ?_,hup,HU.out.trans (HU1.out.mono ?_)⟩
   ·have h1:=HQ.out; have h2:=HEC.out; omega
   ·intro z hz; exact List.mem_cons_of_mem _ (flat_mem HFJ.out z hz)
  case measure=>simp [intOf]; omega
set_option maxRecDepth 100000 in
set_option maxHeartbeats 1000000 in
theorem markScene_any (c0 c1 c2 c3 c4 c5 c6:Value) (x:DScene) (k:Int) (fp:List Nat) (w:World) (hx:RScene.rep w [c0,c1,c2,c3,c4,c5,c6] x fp) (hn:fp.Nodup) (hf:∀ b ∈ fp,Free w b) (h0:0<=k) (h1:k+cnScene x<=1073741824) :
  Calls Tryz.prog 20 #[.agg #[c0,c1,c2,c3,c4,c5,c6],.int .i64 k] w (Post (MarkPost RScene [c0,c1,c2,c3,c4,c5,c6] (mkScene x k) fp (k+cnScene x) w)):=by
 have hlt:=RScene.lt hx
 have hflat:∀ {d0 d1:Value} {y:DVec} {f:List Nat},RVec.rep w [d0,d1] y f->f=[]:=fun {d0 d1 y f} h=>by
  obtain ⟨_,_,rfl,h1,h2⟩:=rep_split [d0] [d1] rfl h
  rw [h1.2.1,h2.2.1]; rfl
 obtain ⟨fa,fr1,rfl,hra,hrest1⟩:=rep_split [c0,c1] [c2,c3,c4,c5,c6] rfl hx
 obtain ⟨fb,fr2,rfl,hrb,hrest2⟩:=rep_split [c2,c3] [c4,c5,c6] rfl hrest1
 obtain rfl:=hflat hra
 obtain rfl:=hflat hrb
 obtain ⟨f0,frest,rfl,hr0,hrest⟩:=rep_split [c4] [c5,c6] rfl hrest2
 obtain ⟨f1,f2,rfl,hr1,hr2⟩:=rep_split [c5] [c6] rfl hrest
 simp only [List.nil_append] at hn hf hlt
 obtain ⟨nd0,nd12,dj0,dj0'⟩:=nodup_app hn
 obtain ⟨nd1,nd2,dj1,dj1'⟩:=nodup_app nd12
 have m0:∀ b,b ∈ f0->b ∈ f0++(f1++f2):=fun b hb=>List.mem_append.2 (.inl hb)
 have m1:∀ b,b ∈ f1->b ∈ f0++(f1++f2):=fun b hb=>List.mem_append.2 (.inr (List.mem_append.2 (.inl hb)))
 have m2:∀ b,b ∈ f2->b ∈ f0++(f1++f2):=fun b hb=>List.mem_append.2 (.inr (List.mem_append.2 (.inr hb)))
 have n01:∀ b,b ∈ f0->b ∉ f1:=fun b h g=>dj0 b h (List.mem_append.2 (.inl g))
 have n02:∀ b,b ∈ f0->b ∉ f2:=fun b h g=>dj0 b h (List.mem_append.2 (.inr g))
 have n10:∀ b,b ∈ f1->b ∉ f0:=fun b h g=>n01 b g h
 have n20:∀ b,b ∈ f2->b ∉ f0:=fun b h g=>n02 b g h
 have HRA:=Lib.hid hra; have HRB:=Lib.hid hrb
 have HR0:=Lib.hid hr0; have HR1:=Lib.hid hr1; have HR2:=Lib.hid hr2
 have HF:=Lib.hid hf; have HLT:=Lib.hid hlt; clear hr0 hr1 hr2 hn hf hlt hx hrest hrest1 hrest2 hra hrb hflat
 have hub:=h1; unfold cnScene at hub
 have hp0:(0:Int)<=(cnVecS x.2.2.1:Nat):=Int.natCast_nonneg _
 have hp1:(0:Int)<=(cnVecSS x.2.2.2.1:Nat):=Int.natCast_nonneg _
 have hp2:(0:Int)<=(cnVecS x.2.2.2.2:Nat):=Int.natCast_nonneg _
 have hend:k+(cnVecS x.2.2.1:Nat)+(cnVecSS x.2.2.2.1:Nat)+(cnVecS x.2.2.2.2:Nat)=k+(cnScene x:Nat):=by unfold cnScene; omega
 have HEND:=Lib.hid hend; clear hend
 go_enter Tryz.func20,Tryz.ntmps20
 have hu0:Below w.heap.size w (w.alloc (Obj.cells #[c0,c1,c2,c3,c4,c5,c6] 45)):=(Below.refl w.heap.size w).alloc (Nat.le_refl _) _
 go_wp2_with fail
 refine (markVecS_any _ _ _ f0 _ (RVecS.frame HR0.out fun b hb=>hu0.block b (HLT.out b (m0 b hb))) nd0 (fun b hb=>(HF.out b (m0 b hb)).frame (hu0.block b (HLT.out b (m0 b hb)))) (by omega) (by omega)).mono ?_
 rintro e w1 ⟨v,rfl,rfl,hm1,hu1⟩
 have HMM1:=Lib.hid hm1; clear hm1
 have hcb1:∀ o,w1.cell? ⟨w.heap.size,o,none⟩=(w.alloc (Obj.cells #[c0,c1,c2,c3,c4,c5,c6] 45)).cell? ⟨w.heap.size,o,none⟩:=fun o=>hu1.cell (by simp) (fun hb=>absurd (HLT.out _ (m0 _ hb)) (by omega)) o
 go_wp2_with fail
 have hr11:RVecSS.rep w1 [c5] x.2.2.2.1 f1:=Rp.upto (RVecSS.frame HR1.out fun b hb=>hu0.block b (HLT.out b (m1 b hb))) hu1 n10
 have hfr1:∀ b ∈ f1,Free w1 b:=fun b hb=>((HF.out b (m1 b hb)).frame (hu0.block b (HLT.out b (m1 b hb)))).frame (hu1.block b (Nat.lt_of_lt_of_le (HLT.out b (m1 b hb)) hu0.size) (n10 b hb))
 have hr21:RVecS.rep w1 [c6] x.2.2.2.2 f2:=Rp.upto (RVecS.frame HR2.out fun b hb=>hu0.block b (HLT.out b (m2 b hb))) hu1 n20
 have hfr2:∀ b ∈ f2,Free w1 b:=fun b hb=>((HF.out b (m2 b hb)).frame (hu0.block b (HLT.out b (m2 b hb)))).frame (hu1.block b (Nat.lt_of_lt_of_le (HLT.out b (m2 b hb)) hu0.size) (n20 b hb))
 have hlt1:∀ b ∈ f1++f2,b < w1.heap.size:=fun b hb=>Nat.lt_of_lt_of_le (HLT.out b (List.mem_append.2 (.inr hb))) (Nat.le_trans hu0.size hu1.size)
 refine (markVecSS_any _ _ _ f1 _ hr11 nd1 hfr1 (by omega) (by omega)).mono ?_
 rintro e w2 ⟨v,rfl,rfl,hm2,hu2⟩
 have HMM2:=Lib.hid hm2; clear hm2
 have hcb2:∀ o,w2.cell? ⟨w.heap.size,o,none⟩=(w.alloc (Obj.cells #[c0,c1,c2,c3,c4,c5,c6] 45)).cell? ⟨w.heap.size,o,none⟩:=fun o=>(hu2.cell (Nat.lt_of_lt_of_le (by simp) hu1.size) (fun hb=>absurd (HLT.out _ (m1 _ hb)) (by omega)) o).trans (hcb1 o)
 go_wp2_with fail
 have hr22:RVecS.rep w2 [c6] x.2.2.2.2 f2:=Rp.upto hr21 hu2 dj1'
 have hfr22:∀ b ∈ f2,Free w2 b:=fun b hb=>(hfr2 b hb).frame (hu2.block b (hlt1 b (List.mem_append.2 (.inr hb))) (dj1' b hb))
 refine (markVecS_any _ _ _ f2 _ hr22 nd2 hfr22 (by omega) (by omega)).mono ?_
 rintro e w3 ⟨v,rfl,rfl,hm3,hu3⟩
 have HMM3:=Lib.hid hm3; clear hm3
 go_wp2
 go_ret
 exact ⟨_,rfl,congrArg (Value.int .i64) HEND.out,rep_pair (RVec.frame HRA.out fun b hb=>by cases hb) (rep_pair (RVec.frame HRB.out fun b hb=>by cases hb) (rep_pair (Rp.upto (Rp.upto HMM1.out hu2 n01) hu3 n02) (rep_pair (Rp.upto HMM2.out hu3 dj1) HMM3.out))),
  (((Upto.of_below hu0 (Nat.le_refl _)).trans (hu1.mono fun b hb=>m0 b hb)).trans (hu2.mono fun b hb=>m1 b hb)).trans (hu3.mono fun b hb=>m2 b hb)⟩
namespace DW
theorem markScene_fn (x:DScene) (k:Int) (h0:0<=k) (h1:k+cnScene x<=1073741824):FnM Tryz.prog 20 DW.tScene x (mkScene x k) k (k+cnScene x):=by
 refine FnM.of (enters Tryz.func20 rfl rfl) (small_I64 (by omega) h1) fun w v cs fp hp hx hn hf=>?_
 obtain rfl:=pk_agg rfl hp
 obtain ⟨c0,c1,c2,c3,c4,c5,c6,rfl⟩:=list7 (RScene.len hx)
 exact markScene_any _ _ _ _ _ _ _ x k fp w hx hn hf h0 h1
@[go_sem] theorem mkScene_s0 (x:DScene) (k:Int):(mkScene x k).1=x.1:=(rfl)
@[go_sem] theorem mkScene_s1 (x:DScene) (k:Int):(mkScene x k).2.1=x.2.1:=(rfl)
theorem cnVecSS_le (x:DVecSS):cnVecSS x=2 * Go.Proofs.YtffdhjnbppagjaaGreat.tVecSS x:=by
 induction x with
 | nil=>rfl
 | cons y l ih=>rw [cnVecSS,ih,cnVecS_le,Go.Proofs.YtffdhjnbppagjaaGreat.tVecSS]; omega
end DW
theorem cnScene_le (x:DScene):cnScene x<=3 * tScene x:=by
 have h1:=DW.cnVecS_le x.2.2.1
 have h2:=DW.cnVecSS_le x.2.2.2.1
 have h3:=DW.cnVecS_le x.2.2.2.2
 unfold cnScene tScene
 omega
end Go.Proofs.YtffdhjnbppagjaaGreat

namespace Go.Proofs.YtffdhjnbppagjaaGreat.DW
open Go.RowKit
noncomputable def sdO (b:DV × DV) (p:DP):Nat->Option Rat
 | 0=>subO (rdO p.1) (some ((b.1.1:Int):Rat))
 | 1=>subO (some ((b.2.1:Int):Rat)) (rdO p.1)
 | 2=>subO (rdO p.2) (some ((b.1.2:Int):Rat))
 | _=>subO (some ((b.2.2:Int):Rat)) (rdO p.2)
noncomputable def sqO (b:DV × DV) (p:DP) (i:Nat):Option Rat:=mulO (sdO b p i) (sdO b p i)
noncomputable def lsO (b:DV × DV) (p:DP):Nat->Option Rat
 | 0=>sqO b p 0
 | i+1=>minO (lsO b p i) (sqO b p (i+1))
noncomputable def sideO (b:DV × DV) (p:DP):Option Rat:=lsO b p 3
theorem okO_sq (b:DV × DV) (p:DP) (i:Nat):okO (sqO b p i):=okO_mul _ _
theorem okO_ls (b:DV × DV) (p:DP):∀ i,okO (lsO b p i)
 | 0=>okO_sq _ _ _
 | i+1=>okO_min (okO_ls b p i) (okO_sq _ _ _)
noncomputable def bwI (l:List DV) (p q:DP):Nat->Option Rat
 | 0=>minO (tpD l p) (tpD l q)
 | i+1=>minO (bwI l p q i) (segD (ptV (nth (t:=tVec) l i)) p q)
theorem okO_bw (l:List DV) (p q:DP):∀ i,okO (bwI l p q i)
 | 0=>okO_min (okO_tpD _ _) (okO_tpD _ _)
 | i+1=>okO_min (okO_bw l p q i) (okO_segD _ _ _)
noncomputable def btwD (l:List DV) (p q:DP):Option Rat:=if segB l p q then zeroO else bwI l p q l.length
theorem okO_btw (l:List DV) (p q:DP):okO (btwD l p q):=by
 unfold btwD
 split
 ·exact okO_zero
 ·exact okO_bw _ _ _ _
noncomputable def mcI (s:DSc) (h:Int) (p q:DP):Nat->Option Rat
 | 0=>minO (sideO (boxD s h) p) (sideO (boxD s h) q)
 | i+1=>minO (mcI s h p q i) (btwD (nth (t:=.slice tVec) (arsD s h) i) p q)
theorem okO_mc (s:DSc) (h:Int) (p q:DP):∀ i,okO (mcI s h p q i)
 | 0=>okO_min (okO_ls _ _ _) (okO_ls _ _ _)
 | i+1=>okO_min (okO_mc s h p q i) (okO_btw _ _ _)
noncomputable def mcD (s:DSc) (h:Int) (p q:DP):Option Rat:=if freM s h p q then mcI s h p q (arsD s h).length else zeroO
theorem okO_mcD (s:DSc) (h:Int) (p q:DP):okO (mcD s h p q):=by
 unfold mcD
 split
 ·exact okO_mc _ _ _ _ _
 ·exact okO_zero
noncomputable def sdL (b:DV × DV) (p:DP):List DR:=[oD (sdO b p 0),oD (sdO b p 1),oD (sdO b p 2),oD (sdO b p 3)]
theorem okPt_vec {v:DV} (h:okV v=true):okPt (ptV v)=true:=by
 obtain ⟨b1,b2,b3,b4⟩:=okV_b h
 show (okR (ratI v.1) && okR (ratI v.2))=true
 rw [okR_ratI b1 b2,okR_ratI b3 b4]; rfl
set_option maxRecDepth 100000 in
set_option maxHeartbeats 4000000 in
theorem sidesOf_fn (b:DV × DV) (p:DP) (hb:BB b) (hp:okPt p=true):Fn Tryz.prog 171 [⟨tBox,b⟩,⟨tPoint,p⟩] false [⟨tRat,oD (sideO b p)⟩]:=by
 obtain ⟨p1,p2⟩:=Bool.and_eq_true_iff.1 (show (okR p.1 && okR p.2)=true from hp)
 have a0:=(ratInt_fn b.1.1).sh
 rw [show ratI b.1.1=oD (some ((b.1.1:Int):Rat)) from ratI_eq b.1.1] at a0
 have s0:=(ratSub_fn (rdO p.1) (some ((b.1.1:Int):Rat)) (okO_rdO _) (inB3 (by omega))).sh
 rw [okR_oD p1] at s0
 have n0:nth (t:=tRat) (sdL b p) 0=oD (sdO b p 0):=rfl
 have m0:=(ratMul_fn (sdO b p 0) (sdO b p 0) (okO_sub _ _) (okO_sub _ _)).sh
 rw [show mulO (sdO b p 0) (sdO b p 0)=lsO b p 0 from rfl] at m0
 have a1:=(ratInt_fn b.2.1).sh
 rw [show ratI b.2.1=oD (some ((b.2.1:Int):Rat)) from ratI_eq b.2.1] at a1
 have s1:=(ratSub_fn (some ((b.2.1:Int):Rat)) (rdO p.1) (inB3 (by omega)) (okO_rdO _)).sh
 rw [okR_oD p1] at s1
 have n1:nth (t:=tRat) (sdL b p) 1=oD (sdO b p 1):=rfl
 have m1:=(ratMul_fn (sdO b p 1) (sdO b p 1) (okO_sub _ _) (okO_sub _ _)).sh
 rw [show mulO (sdO b p 1) (sdO b p 1)=sqO b p 1 from rfl] at m1
 have k1:=ratMin_fn (lsO b p 0) (sqO b p 1) (okO_ls _ _ _) (okO_sq _ _ _)
 rw [show minO (lsO b p 0) (sqO b p 1)=lsO b p 1 from rfl] at k1
 have a2:=(ratInt_fn b.1.2).sh
 rw [show ratI b.1.2=oD (some ((b.1.2:Int):Rat)) from ratI_eq b.1.2] at a2
 have s2:=(ratSub_fn (rdO p.2) (some ((b.1.2:Int):Rat)) (okO_rdO _) (inB3 (by omega))).sh
 rw [okR_oD p2] at s2
 have n2:nth (t:=tRat) (sdL b p) 2=oD (sdO b p 2):=rfl
 have m2:=(ratMul_fn (sdO b p 2) (sdO b p 2) (okO_sub _ _) (okO_sub _ _)).sh
 rw [show mulO (sdO b p 2) (sdO b p 2)=sqO b p 2 from rfl] at m2
 have k2:=ratMin_fn (lsO b p 1) (sqO b p 2) (okO_ls _ _ _) (okO_sq _ _ _)
 rw [show minO (lsO b p 1) (sqO b p 2)=lsO b p 2 from rfl] at k2
 have a3:=(ratInt_fn b.2.2).sh
 rw [show ratI b.2.2=oD (some ((b.2.2:Int):Rat)) from ratI_eq b.2.2] at a3
 have s3:=(ratSub_fn (some ((b.2.2:Int):Rat)) (rdO p.2) (inB3 (by omega)) (okO_rdO _)).sh
 rw [okR_oD p2] at s3
 have n3:nth (t:=tRat) (sdL b p) 3=oD (sdO b p 3):=rfl
 have m3:=(ratMul_fn (sdO b p 3) (sdO b p 3) (okO_sub _ _) (okO_sub _ _)).sh
 rw [show mulO (sdO b p 3) (sdO b p 3)=sqO b p 3 from rfl] at m3
 have k3:=ratMin_fn (lsO b p 2) (sqO b p 3) (okO_ls _ _ _) (okO_sq _ _ _)
 rw [show minO (lsO b p 2) (sqO b p 3)=lsO b p 3 from rfl] at k3
 refine fn_enter tabOK mixes Tryz.func171 rfl rfl _ Tryz.ntmps171 _ Tryz.results171 (by simp) fun hwf=>?_
 try simp (maxSteps:=9^9) only[go_sem]
 repeat refine And.intro (by first|omega|(constructor<;>omega)|kernel_rfl) ?_
 refine CallW.mk (a0) ?_
 try simp (maxSteps:=9^9) only[go_sem]
 repeat refine And.intro (by first|omega|(constructor<;>omega)|kernel_rfl) ?_
 refine CallW.mk (s0) ?_
 try simp (maxSteps:=9^9) only[go_sem]
 repeat refine And.intro (by first|omega|(constructor<;>omega)|kernel_rfl) ?_
 refine CallW.mk (a1) ?_
 try simp (maxSteps:=9^9) only[go_sem]
 repeat refine And.intro (by first|omega|(constructor<;>omega)|kernel_rfl) ?_
 refine CallW.mk (s1) ?_
 try simp (maxSteps:=9^9) only[go_sem]
 repeat refine And.intro (by first|omega|(constructor<;>omega)|kernel_rfl) ?_
 refine CallW.mk (a2) ?_
 try simp (maxSteps:=9^9) only[go_sem]
 repeat refine And.intro (by first|omega|(constructor<;>omega)|kernel_rfl) ?_
 refine CallW.mk (s2) ?_
 try simp (maxSteps:=9^9) only[go_sem]
 repeat refine And.intro (by first|omega|(constructor<;>omega)|kernel_rfl) ?_
 refine CallW.mk (a3) ?_
 try simp (maxSteps:=9^9) only[go_sem]
 repeat refine And.intro (by first|omega|(constructor<;>omega)|kernel_rfl) ?_
 refine CallW.mk (s3) ?_
 try simp (maxSteps:=9^9) only[go_sem]
 repeat refine And.intro (by first|omega|(constructor<;>omega)|kernel_rfl) ?_
 refine LoopG.intro _ _ _ (fun y:Nat=>match y with|0=>⟨[(4,.ptr 2 0),(5,.ptr 3 0),(38,.row 4 0),(39,.sc (.int .i64 4)),(40,.sc (.int .i64 0))],[(2,.box [.sc (.bool false),.sc (.slice none 0 0),.sc (.slice none 0 0)]),(3,.box [.sc (.bool false),.sc (.slice none 0 0),.sc (.slice none 0 0)]),(4,.row 39 tRat 0 false (sdL b p))]⟩|1=>⟨[(4,.ptr 2 0),(5,.ptr 3 0),(38,.row 4 0),(39,.sc (.int .i64 4)),(40,.sc (.int .i64 1))],[(2,.box [.sc (.bool false),.sc (.slice none 0 0),.sc (.slice none 0 0)]),(3,.box (cel tRat (oD (lsO b p 0)))),(4,.row 39 tRat 0 false (sdL b p))]⟩|2=>⟨[(4,.ptr 2 0),(5,.ptr 3 0),(38,.row 4 0),(39,.sc (.int .i64 4)),(40,.sc (.int .i64 2))],[(2,.box [.sc (.bool false),.sc (.slice none 0 0),.sc (.slice none 0 0)]),(3,.box (cel tRat (oD (lsO b p 1)))),(4,.row 39 tRat 0 false (sdL b p))]⟩|3=>⟨[(4,.ptr 2 0),(5,.ptr 3 0),(38,.row 4 0),(39,.sc (.int .i64 4)),(40,.sc (.int .i64 3))],[(2,.box [.sc (.bool false),.sc (.slice none 0 0),.sc (.slice none 0 0)]),(3,.box (cel tRat (oD (lsO b p 2)))),(4,.row 39 tRat 0 false (sdL b p))]⟩|_=>⟨[(4,.ptr 2 0),(5,.ptr 3 0),(38,.row 4 0),(39,.sc (.int .i64 4)),(40,.sc (.int .i64 4))],[(2,.box [.sc (.bool false),.sc (.slice none 0 0),.sc (.slice none 0 0)]),(3,.box (cel tRat (oD (lsO b p 3)))),(4,.row 39 tRat 0 false (sdL b p))]⟩) (fun y=>y<=4) (fun y=>4 - y) 0 ?_ (Nat.zero_le _) ?_
 ·unfold sdL sdO
  refine Wk.mk [] ?_
  try simp (maxSteps:=9^9) only[go_sem]
  try (and_intros<;>first|rfl|omega|exact ⟨_,rfl⟩)
 ·rintro y hy
  have hlen:(sdL b p).length=4:=rfl
  obtain rfl|rfl|rfl|rfl|rfl:y=0\/y=1\/y=2\/y=3\/y=4:=by omega
  ·try simp (maxSteps:=9^9) only[go_sem,hlen]
   repeat refine And.intro (by first|omega|(constructor<;>omega)|kernel_rfl) ?_
   try simp (maxSteps:=9^9) only[go_sem,n0]
   repeat refine And.intro (by first|omega|(constructor<;>omega)|kernel_rfl) ?_
   refine CallW.mk (m0) ?_
   try simp (maxSteps:=9^9) only[go_sem]
   repeat refine And.intro (by first|omega|(constructor<;>omega)|kernel_rfl) ?_
   refine LoopK.mk 1 ?_ (by omega) (by omega)
   refine Wk.mk [] ?_
   try simp (maxSteps:=9^9) only[go_sem]
   try (and_intros<;>first|rfl|omega|exact ⟨_,rfl⟩)
  ·try simp (maxSteps:=9^9) only[go_sem,hlen]
   repeat refine And.intro (by first|omega|(constructor<;>omega)|kernel_rfl) ?_
   try simp (maxSteps:=9^9) only[go_sem,n1]
   repeat refine And.intro (by first|omega|(constructor<;>omega)|kernel_rfl) ?_
   refine CallW.mk (m1) ?_
   try simp (maxSteps:=9^9) only[go_sem]
   repeat refine And.intro (by first|omega|(constructor<;>omega)|kernel_rfl) ?_
   refine CallW.mk (k1) ?_
   try simp (maxSteps:=9^9) only[go_sem]
   repeat refine And.intro (by first|omega|(constructor<;>omega)|kernel_rfl) ?_
   refine LoopK.mk 2 ?_ (by omega) (by omega)
   refine Wk.mk [] ?_
   try simp (maxSteps:=9^9) only[go_sem]
   try (and_intros<;>first|rfl|omega|exact ⟨_,rfl⟩)
  ·try simp (maxSteps:=9^9) only[go_sem,hlen]
   repeat refine And.intro (by first|omega|(constructor<;>omega)|kernel_rfl) ?_
   try simp (maxSteps:=9^9) only[go_sem,n2]
   repeat refine And.intro (by first|omega|(constructor<;>omega)|kernel_rfl) ?_
   refine CallW.mk (m2) ?_
   try simp (maxSteps:=9^9) only[go_sem]
   repeat refine And.intro (by first|omega|(constructor<;>omega)|kernel_rfl) ?_
   refine CallW.mk (k2) ?_
   try simp (maxSteps:=9^9) only[go_sem]
   repeat refine And.intro (by first|omega|(constructor<;>omega)|kernel_rfl) ?_
   refine LoopK.mk 3 ?_ (by omega) (by omega)
   refine Wk.mk [] ?_
   try simp (maxSteps:=9^9) only[go_sem]
   try (and_intros<;>first|rfl|omega|exact ⟨_,rfl⟩)
  ·try simp (maxSteps:=9^9) only[go_sem,hlen]
   repeat refine And.intro (by first|omega|(constructor<;>omega)|kernel_rfl) ?_
   try simp (maxSteps:=9^9) only[go_sem,n3]
   repeat refine And.intro (by first|omega|(constructor<;>omega)|kernel_rfl) ?_
   refine CallW.mk (m3) ?_
   try simp (maxSteps:=9^9) only[go_sem]
   repeat refine And.intro (by first|omega|(constructor<;>omega)|kernel_rfl) ?_
   refine CallW.mk (k3) ?_
   try simp (maxSteps:=9^9) only[go_sem]
   repeat refine And.intro (by first|omega|(constructor<;>omega)|kernel_rfl) ?_
   refine LoopK.mk 4 ?_ (by omega) (by omega)
   refine Wk.mk [] ?_
   try simp (maxSteps:=9^9) only[go_sem]
   try (and_intros<;>first|rfl|omega|exact ⟨_,rfl⟩)
  ·try simp (maxSteps:=9^9) only[go_sem,hlen]
   rw [show sideO b p=lsO b p 3 from rfl]
   try simp (maxSteps:=9^9) only[go_sem]
   all_goals repeat refine And.intro (by first|omega|(constructor<;>omega)|kernel_rfl) ?_
   all_goals first|kernel_rfl|omega|rfl
set_option maxRecDepth 100000 in
set_option maxHeartbeats 2000000 in
theorem between_fn (l:List DV) (p q:DP) (hl:polyP l) (hp:okPt p=true) (hq:okPt q=true):Fn Tryz.prog 172 [⟨.slice tVec,l⟩,⟨tPoint,p⟩,⟨tPoint,q⟩] false [⟨tRat,oD (btwD l p q)⟩]:=by
 have c1:=segmentMeets_fn l p q hl hp hq
 have hn:=hl.1.2
 unfold btwD
 cases hs:segB l p q<;>rw [hs] at c1
 ·have c2:=toPolygon_fn l p hl hp
  have c3:=toPolygon_fn l q hl hq
  have c4:=ratMin_fn (tpD l p) (tpD l q) (okO_tpD _ _) (okO_tpD _ _)
  have c5:=(pointsOf_fn l (by omega)).sh
  have hml:(l.map ptV).length=l.length:=List.length_map ..
  rw [if_neg (by decide)]
  refine fn_enter tabOK mixes Tryz.func172 rfl rfl _ Tryz.ntmps172 _ Tryz.results172 (by simp) fun hwf=>?_
  try simp (maxSteps:=9^9) only[go_sem]
  repeat refine And.intro (by first|omega|(constructor<;>omega)|kernel_rfl) ?_
  refine CallW.mk (c1) ?_
  try simp (maxSteps:=9^9) only[go_sem]
  repeat refine And.intro (by first|omega|(constructor<;>omega)|kernel_rfl) ?_
  refine CallW.mk (c2) ?_
  try simp (maxSteps:=9^9) only[go_sem]
  repeat refine And.intro (by first|omega|(constructor<;>omega)|kernel_rfl) ?_
  refine CallW.mk (c3) ?_
  try simp (maxSteps:=9^9) only[go_sem]
  repeat refine And.intro (by first|omega|(constructor<;>omega)|kernel_rfl) ?_
  refine CallW.mk (c4) ?_
  try simp (maxSteps:=9^9) only[go_sem]
  repeat refine And.intro (by first|omega|(constructor<;>omega)|kernel_rfl) ?_
  refine CallW.mk (c5) ?_
  try simp (maxSteps:=9^9) only[go_sem]
  repeat refine And.intro (by first|omega|(constructor<;>omega)|kernel_rfl) ?_
  refine LoopG.intro _ _ _ (fun i:Nat=>⟨[(4,.ptr 0 0),(5,.ptr 1 0),(6,.ptr 2 0),(7,.ptr 3 0),(23,.sl tPoint (l.map ptV)),(24,.sc (.int .i64 (l.map ptV).length)),(25,.sc (.int .i64 i))],[(0,.box (cel tPoint p)),(1,.box (cel tPoint q)),(2,.box [.sc (.bool false),.sc (.slice none 0 0),.sc (.slice none 0 0)]),(3,.box (cel tRat (oD (bwI l p q i))))]⟩) (fun i=>i<=l.length) (fun i=>l.length - i) 0 ?_ (Nat.zero_le _) ?_
  ·refine Wk.mk [] ?_
   try simp (maxSteps:=9^9) only[go_sem]
   try (and_intros<;>first|rfl|omega|exact ⟨_,rfl⟩)
  ·rintro i hi
   try simp (maxSteps:=9^9) only[go_sem]
   refine CondW_dec (fun hA=>?_) (fun hA=>?_)
   ·have hlt:i < l.length:=by omega
    have e:nth (t:=tPoint) (l.map ptV) i=ptV (nth (t:=tVec) l i):=by rw [nth_lt (by rw [hml]; exact hlt),nth_lt hlt,List.getElem_map]
    have c6:=(toSegment_fn (ptV (nth (t:=tVec) l i)) p q (gP_ok (okPt_vec (hl.2.1 _ (nth_mem hlt)))) (gP_ok hp) (gP_ok hq)).sh
    rw [<-e] at c6
    have c7:=ratMin_fn (bwI l p q i) (segD (nth (t:=tPoint) (l.map ptV) i) p q) (okO_bw _ _ _ _) (okO_segD _ _ _)
    rw [show minO (bwI l p q i) (segD (nth (t:=tPoint) (l.map ptV) i) p q)=bwI l p q (i+1) by rw [e]; rfl] at c7
    try simp (maxSteps:=9^9) only[go_sem]
    repeat refine And.intro (by first|omega|(constructor<;>omega)|kernel_rfl) ?_
    refine CallW.mk (c6) ?_
    try simp (maxSteps:=9^9) only[go_sem]
    repeat refine And.intro (by first|omega|(constructor<;>omega)|kernel_rfl) ?_
    refine CallW.mk (c7) ?_
    try simp (maxSteps:=9^9) only[go_sem]
    repeat refine And.intro (by first|omega|(constructor<;>omega)|kernel_rfl) ?_
    refine LoopK.mk (i+1) ?_ (by omega) (by omega)
    refine Wk.mk [] ?_
    try simp (maxSteps:=9^9) only[go_sem]
    try (and_intros<;>first|rfl|omega|exact ⟨_,rfl⟩)
   ·rw [show bwI l p q l.length=bwI l p q i by rw [show i=l.length by omega]]
    try simp (maxSteps:=9^9) only[go_sem]
    all_goals repeat refine And.intro (by first|omega|(constructor<;>omega)|kernel_rfl) ?_
    all_goals first|kernel_rfl|omega|rfl
 ·have c2:=(ratInt_fn 0).sh
  rw [ratI_z] at c2
  rw [if_pos rfl]
  refine fn_enter tabOK mixes Tryz.func172 rfl rfl _ Tryz.ntmps172 _ Tryz.results172 (by simp) fun hwf=>?_
  try simp (maxSteps:=9^9) only[go_sem]
  repeat refine And.intro (by first|omega|(constructor<;>omega)|kernel_rfl) ?_
  refine CallW.mk (c1) ?_
  try simp (maxSteps:=9^9) only[go_sem]
  repeat refine And.intro (by first|omega|(constructor<;>omega)|kernel_rfl) ?_
  refine CallW.mk (c2) ?_
  try simp (maxSteps:=9^9) only[go_sem]
  all_goals repeat refine And.intro (by first|omega|(constructor<;>omega)|kernel_rfl) ?_
  all_goals first|kernel_rfl|omega|rfl
theorem frm_p {s:DSc} {h:Int} {p q:DP} (e:freM s h p q=true):opnB s h=true/\okPt p=true/\okPt q=true:=by
 unfold freM at e
 rw [Bool.and_eq_true,Bool.and_eq_true] at e
 exact ⟨(fre_opn e.1).1,(fre_opn e.1).2,(fre_opn e.2.1).2⟩
theorem mc_f {s:DSc} {h:Int} {p q:DP} (e:freM s h p q=false):mcD s h p q=zeroO:=if_neg (by rw [e]; decide)
theorem mc_t {s:DSc} {h:Int} {p q:DP} (e:freM s h p q=true):mcD s h p q=mcI s h p q (arsD s h).length:=if_pos e
set_option maxRecDepth 100000 in
set_option maxHeartbeats 2000000 in
theorem spMoveClearance_fn (s:DSc) (h:Int) (p q:DP) (hp:okPt p=true) (hq:okPt q=true):Fn Tryz.prog 83 [⟨tSpace,spcD s h⟩,⟨tPoint,p⟩,⟨tPoint,q⟩] false [⟨tRat,oD (mcD s h p q)⟩]:=by
 have c1:=isFreeMoveI_fn s h p q hp hq
 cases e:freM s h p q<;>rw [e] at c1
 ·have c2:=(ratInt_fn 0).sh
  rw [ratI_z] at c2
  rw [mc_f e]
  generalize spcD s h=X at c1 ⊢
  obtain ⟨o,b,l⟩:=X
  refine fn_enter tabOK mixes Tryz.func83 rfl rfl _ Tryz.ntmps83 _ Tryz.results83 (by simp) fun hwf=>?_
  try simp (maxSteps:=9^9) only[go_sem]
  repeat refine And.intro (by first|omega|(constructor<;>omega)|kernel_rfl) ?_
  refine CallW.mk (c1) ?_
  try simp (maxSteps:=9^9) only[go_sem]
  repeat refine And.intro (by first|omega|(constructor<;>omega)|kernel_rfl) ?_
  refine CallW.mk (c2) ?_
  try simp (maxSteps:=9^9) only[go_sem]
  all_goals repeat refine And.intro (by first|omega|(constructor<;>omega)|kernel_rfl) ?_
  all_goals first|kernel_rfl|omega|rfl
 ·have eo:=(frm_p e).1
  have es:=opn_s eo
  have c2:=sidesOf_fn (boxD s h) p (box_b es h) hp
  have c3:=sidesOf_fn (boxD s h) q (box_b es h) hq
  have c4:=ratMin_fn (sideO (boxD s h) p) (sideO (boxD s h) q) (okO_ls _ _ _) (okO_ls _ _ _)
  rw [mc_t e]
  rw [spc_t eo] at c1 ⊢
  refine fn_enter tabOK mixes Tryz.func83 rfl rfl _ Tryz.ntmps83 _ Tryz.results83 (by simp) fun hwf=>?_
  have hln:(arsD s h).length<=9223372036854775807:=(hwf ⟨tSpace,(true,boxD s h,arsD s h)⟩ (by simp)).2.2.1
  try simp (maxSteps:=9^9) only[go_sem]
  repeat refine And.intro (by first|omega|(constructor<;>omega)|kernel_rfl) ?_
  refine CallW.mk (c1) ?_
  try simp (maxSteps:=9^9) only[go_sem]
  repeat refine And.intro (by first|omega|(constructor<;>omega)|kernel_rfl) ?_
  refine CallW.mk (c2) ?_
  try simp (maxSteps:=9^9) only[go_sem]
  repeat refine And.intro (by first|omega|(constructor<;>omega)|kernel_rfl) ?_
  refine CallW.mk (c3) ?_
  try simp (maxSteps:=9^9) only[go_sem]
  repeat refine And.intro (by first|omega|(constructor<;>omega)|kernel_rfl) ?_
  refine CallW.mk (c4) ?_
  try simp (maxSteps:=9^9) only[go_sem]
  repeat refine And.intro (by first|omega|(constructor<;>omega)|kernel_rfl) ?_
  refine LoopG.intro _ _ _ (fun i:Nat=>⟨[(4,.ptr 1 0),(5,.ptr 2 0),(6,.ptr 3 0),(7,.ptr 4 0),(26,.sl (.slice tVec) (arsD s h)),(27,.sc (.int .i64 (arsD s h).length)),(28,.sc (.int .i64 i))],[(1,.box (cel tPoint p)),(2,.box (cel tPoint q)),(3,.box [.sc (.bool false),.sc (.slice none 0 0),.sc (.slice none 0 0)]),(4,.box (cel tRat (oD (mcI s h p q i))))]⟩) (fun i=>i<=(arsD s h).length) (fun i=>(arsD s h).length - i) 0 ?_ (Nat.zero_le _) ?_
  ·refine Wk.mk [] ?_
   try simp (maxSteps:=9^9) only[go_sem]
   try (and_intros<;>first|rfl|omega|exact ⟨_,rfl⟩)
  ·rintro i hi
   try simp (maxSteps:=9^9) only[go_sem]
   refine CondW_dec (fun hA=>?_) (fun hA=>?_)
   ·have hlt:i < (arsD s h).length:=by omega
    have c5:=between_fn (nth (t:=.slice tVec) (arsD s h) i) p q (ars_poly es h _ (nth_memT (t:=.slice tVec) hlt)) hp hq
    have c6:=ratMin_fn (mcI s h p q i) (btwD (nth (t:=.slice tVec) (arsD s h) i) p q) (okO_mc _ _ _ _ _) (okO_btw _ _ _)
    try simp (maxSteps:=9^9) only[go_sem]
    repeat refine And.intro (by first|omega|(constructor<;>omega)|kernel_rfl) ?_
    refine CallW.mk (c5) ?_
    try simp (maxSteps:=9^9) only[go_sem]
    repeat refine And.intro (by first|omega|(constructor<;>omega)|kernel_rfl) ?_
    refine CallW.mk (c6) ?_
    try simp (maxSteps:=9^9) only[go_sem]
    repeat refine And.intro (by first|omega|(constructor<;>omega)|kernel_rfl) ?_
    refine LoopK.mk (i+1) ?_ (by omega) (by omega)
    refine Wk.mk [] ?_
    try simp (maxSteps:=9^9) only[go_sem]
    try (and_intros<;>first|rfl|omega|exact ⟨_,rfl⟩)
   ·rw [show mcI s h p q (arsD s h).length=mcI s h p q i by rw [show i=(arsD s h).length by omega]]
    try simp (maxSteps:=9^9) only[go_sem]
    all_goals repeat refine And.intro (by first|omega|(constructor<;>omega)|kernel_rfl) ?_
    all_goals first|kernel_rfl|omega|rfl
theorem MoveClearanceI_fn (s:DSc) (h:Int) (p q:DP):Fn Tryz.prog 16 [⟨tScene,s⟩,⟨.int,h⟩,⟨tPoint,p⟩,⟨tPoint,q⟩] true [⟨tRat,oD (mcD s h p q)⟩]:=by
 have c1:=arePoints2_fn p q
 cases hp:okPt p && okPt q<;>rw [hp] at c1
 ·have c2:=ratInt_fn 0
  rw [ratI_z] at c2
  have e:freM s h p q=false:=by
   cases e:freM s h p q
   ·rfl
   ·have:=frm_p e
    rw [this.2.1,this.2.2] at hp
    cases hp
  rw [mc_f e]
  refine fn_enter tabOK mixes Tryz.func16 rfl rfl _ Tryz.ntmps16 _ Tryz.results16 (by simp) fun hwf=>?_
  try simp (maxSteps:=9^9) only[go_sem]
  repeat refine And.intro (by first|omega|(constructor<;>omega)|kernel_rfl) ?_
  refine CallW.mk (c1) ?_
  try simp (maxSteps:=9^9) only[go_sem]
  repeat refine And.intro (by first|omega|(constructor<;>omega)|kernel_rfl) ?_
  refine CallW.mk (c2) ?_
  try simp (maxSteps:=9^9) only[go_sem]
  all_goals repeat refine And.intro (by first|omega|(constructor<;>omega)|kernel_rfl) ?_
  all_goals first|kernel_rfl|omega|rfl
 ·rw [Bool.and_eq_true] at hp
  have c2:=spaceOf_fn s h
  have c3:=spMoveClearance_fn s h p q hp.1 hp.2
  have c4:=ownO_fn (mcD s h p q) (okO_mcD _ _ _ _)
  refine fn_enter tabOK mixes Tryz.func16 rfl rfl _ Tryz.ntmps16 _ Tryz.results16 (by simp) fun hwf=>?_
  try simp (maxSteps:=9^9) only[go_sem]
  repeat refine And.intro (by first|omega|(constructor<;>omega)|kernel_rfl) ?_
  refine CallW.mk (c1) ?_
  try simp (maxSteps:=9^9) only[go_sem]
  repeat refine And.intro (by first|omega|(constructor<;>omega)|kernel_rfl) ?_
  refine CallW.mk (c2) ?_
  try simp (maxSteps:=9^9) only[go_sem]
  repeat refine And.intro (by first|omega|(constructor<;>omega)|kernel_rfl) ?_
  refine CallW.mk (c3) ?_
  try simp (maxSteps:=9^9) only[go_sem]
  repeat refine And.intro (by first|omega|(constructor<;>omega)|kernel_rfl) ?_
  refine CallW.mk (c4) ?_
  try simp (maxSteps:=9^9) only[go_sem]
  all_goals repeat refine And.intro (by first|omega|(constructor<;>omega)|kernel_rfl) ?_
  all_goals first|kernel_rfl|omega|rfl
theorem sd_fold (x:Option Rat) (b:DV × DV) (p:DP):minO (minO (minO (minO x (sqO b p 0)) (sqO b p 1)) (sqO b p 2)) (sqO b p 3)=minO x (sideO b p):=by
 unfold sideO lsO lsO lsO lsO
 rw [minO_assoc,minO_assoc,minO_assoc,<-minO_assoc (sqO b p 0),<-minO_assoc (minO (sqO b p 0) (sqO b p 1)) ]
set_option maxRecDepth 100000 in
set_option maxHeartbeats 4000000 in
theorem l23Sides_fn (x:Option Rat) (hx:okO x) (b:DV × DV) (p:DP) (hb:BB b):Fn Tryz.prog 70 [⟨tRat,oD x⟩,⟨tBox,b⟩,⟨tPoint,p⟩] false [⟨tRat,oD (minO x (sideO b p))⟩]:=by
 have a0:=(RatFromInt_fn b.1.1).sh
 have s0:=(specRatSub_fn p.1 (ratI b.1.1)).sh
 rw [rdO_ratN (n:=b.1.1) (by omega) (by omega)] at s0
 have n0:nth (t:=tRat) (sdL b p) 0=oD (sdO b p 0):=rfl
 have m0:=(specRatMul_fn (oD (sdO b p 0)) (oD (sdO b p 0))).sh
 rw [rdO_oD (show okO (sdO b p 0) from okO_sub _ _),show mulO (sdO b p 0) (sdO b p 0)=sqO b p 0 from rfl] at m0
 have o0:okO (minO x (sqO b p 0)):=okO_min hx (okO_sq _ _ _)
 have k0:=(specRatMin_fn (oD x) (oD (sqO b p 0))).sh
 rw [rdO_oD hx,rdO_oD (okO_sq b p 0)] at k0
 have a1:=(RatFromInt_fn b.2.1).sh
 have s1:=(specRatSub_fn (ratI b.2.1) p.1).sh
 rw [rdO_ratN (n:=b.2.1) (by omega) (by omega)] at s1
 have n1:nth (t:=tRat) (sdL b p) 1=oD (sdO b p 1):=rfl
 have m1:=(specRatMul_fn (oD (sdO b p 1)) (oD (sdO b p 1))).sh
 rw [rdO_oD (show okO (sdO b p 1) from okO_sub _ _),show mulO (sdO b p 1) (sdO b p 1)=sqO b p 1 from rfl] at m1
 have o1:okO (minO (minO x (sqO b p 0)) (sqO b p 1)):=okO_min o0 (okO_sq _ _ _)
 have k1:=(specRatMin_fn (oD (minO x (sqO b p 0))) (oD (sqO b p 1))).sh
 rw [rdO_oD o0,rdO_oD (okO_sq b p 1)] at k1
 have a2:=(RatFromInt_fn b.1.2).sh
 have s2:=(specRatSub_fn p.2 (ratI b.1.2)).sh
 rw [rdO_ratN (n:=b.1.2) (by omega) (by omega)] at s2
 have n2:nth (t:=tRat) (sdL b p) 2=oD (sdO b p 2):=rfl
 have m2:=(specRatMul_fn (oD (sdO b p 2)) (oD (sdO b p 2))).sh
 rw [rdO_oD (show okO (sdO b p 2) from okO_sub _ _),show mulO (sdO b p 2) (sdO b p 2)=sqO b p 2 from rfl] at m2
 have o2:okO (minO (minO (minO x (sqO b p 0)) (sqO b p 1)) (sqO b p 2)):=okO_min o1 (okO_sq _ _ _)
 have k2:=(specRatMin_fn (oD (minO (minO x (sqO b p 0)) (sqO b p 1))) (oD (sqO b p 2))).sh
 rw [rdO_oD o1,rdO_oD (okO_sq b p 2)] at k2
 have a3:=(RatFromInt_fn b.2.2).sh
 have s3:=(specRatSub_fn (ratI b.2.2) p.2).sh
 rw [rdO_ratN (n:=b.2.2) (by omega) (by omega)] at s3
 have n3:nth (t:=tRat) (sdL b p) 3=oD (sdO b p 3):=rfl
 have m3:=(specRatMul_fn (oD (sdO b p 3)) (oD (sdO b p 3))).sh
 rw [rdO_oD (show okO (sdO b p 3) from okO_sub _ _),show mulO (sdO b p 3) (sdO b p 3)=sqO b p 3 from rfl] at m3
 have o3:okO (minO (minO (minO (minO x (sqO b p 0)) (sqO b p 1)) (sqO b p 2)) (sqO b p 3)):=okO_min o2 (okO_sq _ _ _)
 have k3:=(specRatMin_fn (oD (minO (minO (minO x (sqO b p 0)) (sqO b p 1)) (sqO b p 2))) (oD (sqO b p 3))).sh
 rw [rdO_oD o2,rdO_oD (okO_sq b p 3)] at k3
 have hlen:(sdL b p).length=4:=rfl
 rw [<-sd_fold]
 refine fn_enter tabOK mixes Tryz.func70 rfl rfl _ Tryz.ntmps70 _ Tryz.results70 (by simp) fun hwf=>?_
 try simp (maxSteps:=9^9) only[go_sem]
 repeat refine And.intro (by first|omega|(constructor<;>omega)|kernel_rfl) ?_
 refine CallW.mk (a0) ?_
 try simp (maxSteps:=9^9) only[go_sem]
 repeat refine And.intro (by first|omega|(constructor<;>omega)|kernel_rfl) ?_
 refine CallW.mk (s0) ?_
 try simp (maxSteps:=9^9) only[go_sem]
 repeat refine And.intro (by first|omega|(constructor<;>omega)|kernel_rfl) ?_
 refine CallW.mk (a1) ?_
 try simp (maxSteps:=9^9) only[go_sem]
 repeat refine And.intro (by first|omega|(constructor<;>omega)|kernel_rfl) ?_
 refine CallW.mk (s1) ?_
 try simp (maxSteps:=9^9) only[go_sem]
 repeat refine And.intro (by first|omega|(constructor<;>omega)|kernel_rfl) ?_
 refine CallW.mk (a2) ?_
 try simp (maxSteps:=9^9) only[go_sem]
 repeat refine And.intro (by first|omega|(constructor<;>omega)|kernel_rfl) ?_
 refine CallW.mk (s2) ?_
 try simp (maxSteps:=9^9) only[go_sem]
 repeat refine And.intro (by first|omega|(constructor<;>omega)|kernel_rfl) ?_
 refine CallW.mk (a3) ?_
 try simp (maxSteps:=9^9) only[go_sem]
 repeat refine And.intro (by first|omega|(constructor<;>omega)|kernel_rfl) ?_
 refine CallW.mk (s3) ?_
 try simp (maxSteps:=9^9) only[go_sem]
 repeat refine And.intro (by first|omega|(constructor<;>omega)|kernel_rfl) ?_
 refine LoopG.intro _ _ _ (fun y:Nat=>match y with|0=>⟨[(3,.ptr 0 0),(6,.ptr 3 0),(39,.row 4 0),(40,.sc (.int .i64 4)),(41,.sc (.int .i64 0))],[(0,.box (cel tRat (oD (x)))),(3,.box [.sc (.bool false),.sc (.slice none 0 0),.sc (.slice none 0 0)]),(4,.row 39 tRat 0 false (sdL b p))]⟩|1=>⟨[(3,.ptr 0 0),(6,.ptr 3 0),(39,.row 4 0),(40,.sc (.int .i64 4)),(41,.sc (.int .i64 1))],[(0,.box (cel tRat (oD ((minO x (sqO b p 0)))))),(3,.box [.sc (.bool false),.sc (.slice none 0 0),.sc (.slice none 0 0)]),(4,.row 39 tRat 0 false (sdL b p))]⟩|2=>⟨[(3,.ptr 0 0),(6,.ptr 3 0),(39,.row 4 0),(40,.sc (.int .i64 4)),(41,.sc (.int .i64 2))],[(0,.box (cel tRat (oD ((minO (minO x (sqO b p 0)) (sqO b p 1)))))),(3,.box [.sc (.bool false),.sc (.slice none 0 0),.sc (.slice none 0 0)]),(4,.row 39 tRat 0 false (sdL b p))]⟩|3=>⟨[(3,.ptr 0 0),(6,.ptr 3 0),(39,.row 4 0),(40,.sc (.int .i64 4)),(41,.sc (.int .i64 3))],[(0,.box (cel tRat (oD ((minO (minO (minO x (sqO b p 0)) (sqO b p 1)) (sqO b p 2)))))),(3,.box [.sc (.bool false),.sc (.slice none 0 0),.sc (.slice none 0 0)]),(4,.row 39 tRat 0 false (sdL b p))]⟩|_=>⟨[(3,.ptr 0 0),(6,.ptr 3 0),(39,.row 4 0),(40,.sc (.int .i64 4)),(41,.sc (.int .i64 4))],[(0,.box (cel tRat (oD ((minO (minO (minO (minO x (sqO b p 0)) (sqO b p 1)) (sqO b p 2)) (sqO b p 3)))))),(3,.box [.sc (.bool false),.sc (.slice none 0 0),.sc (.slice none 0 0)]),(4,.row 39 tRat 0 false (sdL b p))]⟩) (fun y=>y<=4) (fun y=>4 - y) 0 ?_ (Nat.zero_le _) ?_
 ·unfold sdL sdO
  refine Wk.mk [] ?_
  try simp (maxSteps:=9^9) only[go_sem]
  try (and_intros<;>first|rfl|omega|exact ⟨_,rfl⟩)
 ·rintro y hy
  obtain rfl|rfl|rfl|rfl|rfl:y=0\/y=1\/y=2\/y=3\/y=4:=by omega
  ·try simp (maxSteps:=9^9) only[go_sem,hlen]
   repeat refine And.intro (by first|omega|(constructor<;>omega)|kernel_rfl) ?_
   try simp (maxSteps:=9^9) only[go_sem,n0]
   repeat refine And.intro (by first|omega|(constructor<;>omega)|kernel_rfl) ?_
   refine CallW.mk (m0) ?_
   try simp (maxSteps:=9^9) only[go_sem]
   repeat refine And.intro (by first|omega|(constructor<;>omega)|kernel_rfl) ?_
   refine CallW.mk (k0) ?_
   try simp (maxSteps:=9^9) only[go_sem]
   repeat refine And.intro (by first|omega|(constructor<;>omega)|kernel_rfl) ?_
   refine LoopK.mk 1 ?_ (by omega) (by omega)
   refine Wk.mk [] ?_
   try simp (maxSteps:=9^9) only[go_sem]
   try (and_intros<;>first|rfl|omega|exact ⟨_,rfl⟩)
  ·try simp (maxSteps:=9^9) only[go_sem,hlen]
   repeat refine And.intro (by first|omega|(constructor<;>omega)|kernel_rfl) ?_
   try simp (maxSteps:=9^9) only[go_sem,n1]
   repeat refine And.intro (by first|omega|(constructor<;>omega)|kernel_rfl) ?_
   refine CallW.mk (m1) ?_
   try simp (maxSteps:=9^9) only[go_sem]
   repeat refine And.intro (by first|omega|(constructor<;>omega)|kernel_rfl) ?_
   refine CallW.mk (k1) ?_
   try simp (maxSteps:=9^9) only[go_sem]
   repeat refine And.intro (by first|omega|(constructor<;>omega)|kernel_rfl) ?_
   refine LoopK.mk 2 ?_ (by omega) (by omega)
   refine Wk.mk [] ?_
   try simp (maxSteps:=9^9) only[go_sem]
   try (and_intros<;>first|rfl|omega|exact ⟨_,rfl⟩)
  ·try simp (maxSteps:=9^9) only[go_sem,hlen]
   repeat refine And.intro (by first|omega|(constructor<;>omega)|kernel_rfl) ?_
   try simp (maxSteps:=9^9) only[go_sem,n2]
   repeat refine And.intro (by first|omega|(constructor<;>omega)|kernel_rfl) ?_
   refine CallW.mk (m2) ?_
   try simp (maxSteps:=9^9) only[go_sem]
   repeat refine And.intro (by first|omega|(constructor<;>omega)|kernel_rfl) ?_
   refine CallW.mk (k2) ?_
   try simp (maxSteps:=9^9) only[go_sem]
   repeat refine And.intro (by first|omega|(constructor<;>omega)|kernel_rfl) ?_
   refine LoopK.mk 3 ?_ (by omega) (by omega)
   refine Wk.mk [] ?_
   try simp (maxSteps:=9^9) only[go_sem]
   try (and_intros<;>first|rfl|omega|exact ⟨_,rfl⟩)
  ·try simp (maxSteps:=9^9) only[go_sem,hlen]
   repeat refine And.intro (by first|omega|(constructor<;>omega)|kernel_rfl) ?_
   try simp (maxSteps:=9^9) only[go_sem,n3]
   repeat refine And.intro (by first|omega|(constructor<;>omega)|kernel_rfl) ?_
   refine CallW.mk (m3) ?_
   try simp (maxSteps:=9^9) only[go_sem]
   repeat refine And.intro (by first|omega|(constructor<;>omega)|kernel_rfl) ?_
   refine CallW.mk (k3) ?_
   try simp (maxSteps:=9^9) only[go_sem]
   repeat refine And.intro (by first|omega|(constructor<;>omega)|kernel_rfl) ?_
   refine LoopK.mk 4 ?_ (by omega) (by omega)
   refine Wk.mk [] ?_
   try simp (maxSteps:=9^9) only[go_sem]
   try (and_intros<;>first|rfl|omega|exact ⟨_,rfl⟩)
  ·try simp (maxSteps:=9^9) only[go_sem,hlen]
   all_goals repeat refine And.intro (by first|omega|(constructor<;>omega)|kernel_rfl) ?_
   all_goals first|kernel_rfl|omega|rfl
set_option maxRecDepth 100000 in
set_option maxHeartbeats 2000000 in
theorem SquareBetweenS_fn (l:List DV) (p q:DP) (hl:polyP l) (hp:okPt p=true) (hq:okPt q=true):Fn Tryz.prog 74 [⟨.slice tVec,l⟩,⟨tPoint,p⟩,⟨tPoint,q⟩] false [⟨tRat,oD (btwD l p q)⟩]:=by
 have c0:=specIsPolygon_fn l
 rw [polyB_t hl] at c0
 have v1:=specIsValidPoint_fn p
 have v2:=specIsValidPoint_fn q
 rw [hp] at v1
 rw [hq] at v2
 have c1:=SegmentMeetsS_fn l p q hl
 rw [show sgmB l p q=segB l p q by unfold sgmB; rw [hp,hq]; rfl] at c1
 have hn:=hl.1.2
 unfold btwD
 cases hs:segB l p q<;>rw [hs] at c1
 ·have c2:=SquareToPolygonS_fn l p hl
  have c3:=SquareToPolygonS_fn l q hl
  rw [show stpD l p=tpD l p from if_pos hp] at c2
  rw [show stpD l q=tpD l q from if_pos hq] at c3
  have c4:=(specRatMin_fn (oD (tpD l p)) (oD (tpD l q))).sh
  rw [rdO_oD (okO_tpD l p),rdO_oD (okO_tpD l q)] at c4
  rw [if_neg (by decide)]
  refine fn_enter tabOK mixes Tryz.func74 rfl rfl _ Tryz.ntmps74 _ Tryz.results74 (by simp) fun hwf=>?_
  have hln:l.length<=9223372036854775807:=(hwf ⟨.slice tVec,l⟩ (by simp)).1
  try simp (maxSteps:=9^9) only[go_sem]
  repeat refine And.intro (by first|omega|(constructor<;>omega)|kernel_rfl) ?_
  refine CallW.mk (c0) ?_
  try simp (maxSteps:=9^9) only[go_sem]
  repeat refine And.intro (by first|omega|(constructor<;>omega)|kernel_rfl) ?_
  refine CallW.mk (v1) ?_
  try simp (maxSteps:=9^9) only[go_sem]
  repeat refine And.intro (by first|omega|(constructor<;>omega)|kernel_rfl) ?_
  refine CallW.mk (v2) ?_
  try simp (maxSteps:=9^9) only[go_sem]
  repeat refine And.intro (by first|omega|(constructor<;>omega)|kernel_rfl) ?_
  refine CallW.mk (c1) ?_
  try simp (maxSteps:=9^9) only[go_sem]
  repeat refine And.intro (by first|omega|(constructor<;>omega)|kernel_rfl) ?_
  refine CallW.mk (c2) ?_
  try simp (maxSteps:=9^9) only[go_sem]
  repeat refine And.intro (by first|omega|(constructor<;>omega)|kernel_rfl) ?_
  refine CallW.mk (c3) ?_
  try simp (maxSteps:=9^9) only[go_sem]
  repeat refine And.intro (by first|omega|(constructor<;>omega)|kernel_rfl) ?_
  refine CallW.mk (c4) ?_
  try simp (maxSteps:=9^9) only[go_sem]
  repeat refine And.intro (by first|omega|(constructor<;>omega)|kernel_rfl) ?_
  refine LoopG.intro _ _ _ (fun i:Nat=>⟨[(4,.ptr 0 0),(5,.ptr 1 0),(6,.ptr 2 0),(7,.ptr 3 0),(36,.sl tVec l),(37,.sc (.int .i64 l.length)),(38,.sc (.int .i64 i))],[(0,.box (cel tPoint p)),(1,.box (cel tPoint q)),(2,.box [.sc (.bool false),.sc (.slice none 0 0),.sc (.slice none 0 0)]),(3,.box (cel tRat (oD (bwI l p q i))))]⟩) (fun i=>i<=l.length) (fun i=>l.length - i) 0 ?_ (Nat.zero_le _) ?_
  ·refine Wk.mk [] ?_
   try simp (maxSteps:=9^9) only[go_sem]
   try (and_intros<;>first|rfl|omega|exact ⟨_,rfl⟩)
  ·rintro i hi
   try simp (maxSteps:=9^9) only[go_sem]
   refine CondW_dec (fun hA=>?_) (fun hA=>?_)
   ·have hlt:i < l.length:=by omega
    have c5:=(PointOfS_fn (nth (t:=tVec) l i)).sh
    have c6:=(SquareToSegmentS_fn (ptV (nth (t:=tVec) l i)) p q hp hq).sh
    have c7:=(specRatMin_fn (oD (bwI l p q i)) (oD (segD (ptV (nth (t:=tVec) l i)) p q))).sh
    rw [rdO_oD (okO_bw l p q i),rdO_oD (okO_segD _ _ _),show minO (bwI l p q i) (segD (ptV (nth (t:=tVec) l i)) p q)=bwI l p q (i+1) from rfl] at c7
    try simp (maxSteps:=9^9) only[go_sem]
    repeat refine And.intro (by first|omega|(constructor<;>omega)|kernel_rfl) ?_
    refine CallW.mk (c5) ?_
    try simp (maxSteps:=9^9) only[go_sem]
    repeat refine And.intro (by first|omega|(constructor<;>omega)|kernel_rfl) ?_
    refine CallW.mk (c6) ?_
    try simp (maxSteps:=9^9) only[go_sem]
    repeat refine And.intro (by first|omega|(constructor<;>omega)|kernel_rfl) ?_
    refine CallW.mk (c7) ?_
    try simp (maxSteps:=9^9) only[go_sem]
    repeat refine And.intro (by first|omega|(constructor<;>omega)|kernel_rfl) ?_
    refine LoopK.mk (i+1) ?_ (by omega) (by omega)
    refine Wk.mk [] ?_
    try simp (maxSteps:=9^9) only[go_sem]
    try (and_intros<;>first|rfl|omega|exact ⟨_,rfl⟩)
   ·rw [show bwI l p q l.length=bwI l p q i by rw [show i=l.length by omega]]
    try simp (maxSteps:=9^9) only[go_sem]
    all_goals repeat refine And.intro (by first|omega|(constructor<;>omega)|kernel_rfl) ?_
    all_goals first|kernel_rfl|omega|rfl
 ·have c2:=(RatFromInt_fn 0).sh
  rw [ratI_z] at c2
  rw [if_pos rfl]
  refine fn_enter tabOK mixes Tryz.func74 rfl rfl _ Tryz.ntmps74 _ Tryz.results74 (by simp) fun hwf=>?_
  try simp (maxSteps:=9^9) only[go_sem]
  repeat refine And.intro (by first|omega|(constructor<;>omega)|kernel_rfl) ?_
  refine CallW.mk (c0) ?_
  try simp (maxSteps:=9^9) only[go_sem]
  repeat refine And.intro (by first|omega|(constructor<;>omega)|kernel_rfl) ?_
  refine CallW.mk (v1) ?_
  try simp (maxSteps:=9^9) only[go_sem]
  repeat refine And.intro (by first|omega|(constructor<;>omega)|kernel_rfl) ?_
  refine CallW.mk (v2) ?_
  try simp (maxSteps:=9^9) only[go_sem]
  repeat refine And.intro (by first|omega|(constructor<;>omega)|kernel_rfl) ?_
  refine CallW.mk (c1) ?_
  try simp (maxSteps:=9^9) only[go_sem]
  repeat refine And.intro (by first|omega|(constructor<;>omega)|kernel_rfl) ?_
  refine CallW.mk (c2) ?_
  try simp (maxSteps:=9^9) only[go_sem]
  all_goals repeat refine And.intro (by first|omega|(constructor<;>omega)|kernel_rfl) ?_
  all_goals first|kernel_rfl|omega|rfl
theorem sq_side (b:DV × DV) (p:DP):minO (sqO b p 0) (sideO b p)=sideO b p:=by
 unfold sideO lsO lsO lsO lsO
 rw [<-minO_assoc,<-minO_assoc,<-minO_assoc,minO_self]
set_option maxRecDepth 100000 in
set_option maxHeartbeats 4000000 in
theorem MoveClearanceS_fn (s:DSc) (h:Int) (p q:DP):Fn Tryz.prog 13 [⟨tScene,s⟩,⟨.int,h⟩,⟨tPoint,p⟩,⟨tPoint,q⟩] false [⟨tRat,oD (mcD s h p q)⟩]:=by
 have c1:=IsFreeMoveS_fn s h p q
 cases e:freM s h p q<;>rw [e] at c1
 ·have c2:=(RatFromInt_fn 0).sh
  rw [ratI_z] at c2
  rw [mc_f e]
  refine fn_enter tabOK mixes Tryz.func13 rfl rfl _ Tryz.ntmps13 _ Tryz.results13 (by simp) fun hwf=>?_
  try simp (maxSteps:=9^9) only[go_sem]
  repeat refine And.intro (by first|omega|(constructor<;>omega)|kernel_rfl) ?_
  refine CallW.mk (c1) ?_
  try simp (maxSteps:=9^9) only[go_sem]
  repeat refine And.intro (by first|omega|(constructor<;>omega)|kernel_rfl) ?_
  refine CallW.mk (c2) ?_
  try simp (maxSteps:=9^9) only[go_sem]
  all_goals repeat refine And.intro (by first|omega|(constructor<;>omega)|kernel_rfl) ?_
  all_goals first|kernel_rfl|omega|rfl
 ·have eo:=(frm_p e).1
  have es:=opn_s eo
  have hb:=box_b es h
  have c2:=LimitsOfS_fn s h
  rw [bxN_t eo,eo] at c2
  have c3:=(BlockedAreasS_fn s h).sh
  rw [arN_t (opn_1 eo)] at c3
  have c4:=(RatFromInt_fn (boxD s h).1.1).sh
  have c5:=(specRatSub_fn p.1 (ratI (boxD s h).1.1)).sh
  rw [rdO_ratN (n:=(boxD s h).1.1) (by omega) (by omega),show subO (rdO p.1) (some (((boxD s h).1.1:Int):Rat))=sdO (boxD s h) p 0 from rfl] at c5
  have c6:=(specRatMul_fn (oD (sdO (boxD s h) p 0)) (oD (sdO (boxD s h) p 0))).sh
  rw [rdO_oD (show okO (sdO (boxD s h) p 0) from okO_sub _ _),show mulO (sdO (boxD s h) p 0) (sdO (boxD s h) p 0)=sqO (boxD s h) p 0 from rfl] at c6
  have c7:=l23Sides_fn (sqO (boxD s h) p 0) (okO_sq _ _ _) (boxD s h) p hb
  rw [sq_side] at c7
  have c8:=l23Sides_fn (sideO (boxD s h) p) (okO_ls _ _ _) (boxD s h) q hb
  rw [show minO (sideO (boxD s h) p) (sideO (boxD s h) q)=mcI s h p q 0 from rfl] at c8
  rw [mc_t e]
  have hln:(arsD s h).length<=4:=by rw [ars_len]; exact (scene_p es).nobs
  refine fn_enter tabOK mixes Tryz.func13 rfl rfl _ Tryz.ntmps13 _ Tryz.results13 (by simp) fun hwf=>?_
  try simp (maxSteps:=9^9) only[go_sem]
  repeat refine And.intro (by first|omega|(constructor<;>omega)|kernel_rfl) ?_
  refine CallW.mk (c1) ?_
  try simp (maxSteps:=9^9) only[go_sem]
  repeat refine And.intro (by first|omega|(constructor<;>omega)|kernel_rfl) ?_
  refine CallW.mk (c2) ?_
  try simp (maxSteps:=9^9) only[go_sem]
  repeat refine And.intro (by first|omega|(constructor<;>omega)|kernel_rfl) ?_
  refine CallW.mk (c4) ?_
  try simp (maxSteps:=9^9) only[go_sem]
  repeat refine And.intro (by first|omega|(constructor<;>omega)|kernel_rfl) ?_
  refine CallW.mk (c5) ?_
  try simp (maxSteps:=9^9) only[go_sem]
  repeat refine And.intro (by first|omega|(constructor<;>omega)|kernel_rfl) ?_
  refine CallW.mk (c6) ?_
  try simp (maxSteps:=9^9) only[go_sem]
  repeat refine And.intro (by first|omega|(constructor<;>omega)|kernel_rfl) ?_
  refine CallW.mk (c7) ?_
  try simp (maxSteps:=9^9) only[go_sem]
  repeat refine And.intro (by first|omega|(constructor<;>omega)|kernel_rfl) ?_
  refine CallW.mk (c8) ?_
  try simp (maxSteps:=9^9) only[go_sem]
  repeat refine And.intro (by first|omega|(constructor<;>omega)|kernel_rfl) ?_
  refine CallW.mk (c3) ?_
  try simp (maxSteps:=9^9) only[go_sem]
  repeat refine And.intro (by first|omega|(constructor<;>omega)|kernel_rfl) ?_
  refine LoopG.intro _ _ _ (fun i:Nat=>⟨[(6,.ptr 1 0),(7,.ptr 2 0),(8,.ptr 3 0),(12,.ptr 6 0),(46,.sl (.slice tVec) (arsD s h)),(47,.sc (.int .i64 (arsD s h).length)),(48,.sc (.int .i64 i))],[(1,.box (cel tPoint p)),(2,.box (cel tPoint q)),(3,.box [.sc (.bool false),.sc (.slice none 0 0),.sc (.slice none 0 0)]),(6,.box (cel tRat (oD (mcI s h p q i))))]⟩) (fun i=>i<=(arsD s h).length) (fun i=>(arsD s h).length - i) 0 ?_ (Nat.zero_le _) ?_
  ·refine Wk.mk [] ?_
   try simp (maxSteps:=9^9) only[go_sem]
   try (and_intros<;>first|rfl|omega|exact ⟨_,rfl⟩)
  ·rintro i hi
   try simp (maxSteps:=9^9) only[go_sem]
   refine CondW_dec (fun hA=>?_) (fun hA=>?_)
   ·have hlt:i < (arsD s h).length:=by omega
    have k1:=SquareBetweenS_fn (nth (t:=.slice tVec) (arsD s h) i) p q (ars_poly es h _ (nth_memT (t:=.slice tVec) hlt)) (frm_p e).2.1 (frm_p e).2.2
    have k2:=(specRatMin_fn (oD (mcI s h p q i)) (oD (btwD (nth (t:=.slice tVec) (arsD s h) i) p q))).sh
    rw [rdO_oD (okO_mc s h p q i),rdO_oD (okO_btw _ _ _),show minO (mcI s h p q i) (btwD (nth (t:=.slice tVec) (arsD s h) i) p q)=mcI s h p q (i+1) from rfl] at k2
    try simp (maxSteps:=9^9) only[go_sem]
    repeat refine And.intro (by first|omega|(constructor<;>omega)|kernel_rfl) ?_
    refine CallW.mk (k1) ?_
    try simp (maxSteps:=9^9) only[go_sem]
    repeat refine And.intro (by first|omega|(constructor<;>omega)|kernel_rfl) ?_
    refine CallW.mk (k2) ?_
    try simp (maxSteps:=9^9) only[go_sem]
    repeat refine And.intro (by first|omega|(constructor<;>omega)|kernel_rfl) ?_
    refine LoopK.mk (i+1) ?_ (by omega) (by omega)
    refine Wk.mk [] ?_
    try simp (maxSteps:=9^9) only[go_sem]
    try (and_intros<;>first|rfl|omega|exact ⟨_,rfl⟩)
   ·rw [show mcI s h p q (arsD s h).length=mcI s h p q i by rw [show i=(arsD s h).length by omega]]
    try simp (maxSteps:=9^9) only[go_sem]
    all_goals repeat refine And.intro (by first|omega|(constructor<;>omega)|kernel_rfl) ?_
    all_goals first|kernel_rfl|omega|rfl
end Go.Proofs.YtffdhjnbppagjaaGreat.DW

namespace Go.Proofs.YtffdhjnbppagjaaGreat.DW
open Go.RowKit
set_option maxRecDepth 100000 in
set_option maxHeartbeats 8000000 in
theorem lawMoveClearance_fn (x0:DScene) (n1:Int) (x2:DPoint) (x3:DPoint):Fn Tryz.prog 3 [⟨DW.tScene,x0⟩,⟨.int,n1⟩,⟨DW.tPoint,x2⟩,⟨DW.tPoint,x3⟩] false [⟨.bool,true⟩]:=by
 refine fn_enter tabOK mixes Tryz.func3 rfl rfl _ Tryz.ntmps3 _ Tryz.results3 (by simp) fun hwf=>?_
 have hI1:I64 n1:=hwf ⟨.int,n1⟩ (by simp)
 try simp (maxSteps:=9^9) only[go_sem]
 repeat refine And.intro (by first|omega|(constructor<;>omega)|kernel_rfl) ?_
 refine CallW.mk (szScene_fn x0 1048576 (by omega) (by omega)) ?_
 try simp (maxSteps:=9^9) only[go_sem]
 repeat refine And.intro (by first|omega|(constructor<;>omega)|kernel_rfl) ?_
 have hr0:=szr_lo 1048576 (Go.Proofs.YtffdhjnbppagjaaGreat.tScene x0) (by omega)
 refine CondW_dec (fun hlt=>?_) (fun hge0=>?_)
 ·try simp (maxSteps:=9^9) only[go_sem]
 have hge0':0<=szr 1048576 (Go.Proofs.YtffdhjnbppagjaaGreat.tScene x0):=by omega
 try simp (maxSteps:=9^9) only[go_sem]
 repeat refine And.intro (by first|omega|(constructor<;>omega)|kernel_rfl) ?_
 refine CallW.mk (szPoint_fn x2 (szr 1048576 (Go.Proofs.YtffdhjnbppagjaaGreat.tScene x0)) (by omega) (by omega)) ?_
 try simp (maxSteps:=9^9) only[go_sem]
 repeat refine And.intro (by first|omega|(constructor<;>omega)|kernel_rfl) ?_
 have hr1:=szr_lo (szr 1048576 (Go.Proofs.YtffdhjnbppagjaaGreat.tScene x0)) (Go.Proofs.YtffdhjnbppagjaaGreat.tPoint x2) (by omega)
 refine CondW_dec (fun hlt=>?_) (fun hge1=>?_)
 ·try simp (maxSteps:=9^9) only[go_sem]
 have hge1':0<=szr (szr 1048576 (Go.Proofs.YtffdhjnbppagjaaGreat.tScene x0)) (Go.Proofs.YtffdhjnbppagjaaGreat.tPoint x2):=by omega
 try simp (maxSteps:=9^9) only[go_sem]
 repeat refine And.intro (by first|omega|(constructor<;>omega)|kernel_rfl) ?_
 refine CallW.mk (szPoint_fn x3 (szr (szr 1048576 (Go.Proofs.YtffdhjnbppagjaaGreat.tScene x0)) (Go.Proofs.YtffdhjnbppagjaaGreat.tPoint x2)) (by omega) (by omega)) ?_
 try simp (maxSteps:=9^9) only[go_sem]
 repeat refine And.intro (by first|omega|(constructor<;>omega)|kernel_rfl) ?_
 have hr2:=szr_lo (szr (szr 1048576 (Go.Proofs.YtffdhjnbppagjaaGreat.tScene x0)) (Go.Proofs.YtffdhjnbppagjaaGreat.tPoint x2)) (Go.Proofs.YtffdhjnbppagjaaGreat.tPoint x3) (by omega)
 refine CondW_dec (fun hlt=>?_) (fun hge2=>?_)
 ·try simp (maxSteps:=9^9) only[go_sem]
 have hge2':0<=szr (szr (szr 1048576 (Go.Proofs.YtffdhjnbppagjaaGreat.tScene x0)) (Go.Proofs.YtffdhjnbppagjaaGreat.tPoint x2)) (Go.Proofs.YtffdhjnbppagjaaGreat.tPoint x3):=by omega
 have hs0:=(szr_ok hge0').1
 have hs1:=(szr_ok hge1').1
 have hs2:=(szr_ok hge2').1
 have hle0:Go.Proofs.YtffdhjnbppagjaaGreat.tScene x0<=1048576:=by omega
 have hle2:Go.Proofs.YtffdhjnbppagjaaGreat.tPoint x2<=1048576:=by omega
 have hle3:Go.Proofs.YtffdhjnbppagjaaGreat.tPoint x3<=1048576:=by omega
 clear hr0 hs0 hge0 hge0' hr1 hs1 hge1 hge1' hr2 hs2 hge2 hge2'
 try simp (maxSteps:=9^9) only[go_sem]
 repeat refine And.intro (by first|omega|(constructor<;>omega)|kernel_rfl) ?_
 refine CallW.mk (toScene_fn x0 hle0) ?_
 try simp (maxSteps:=9^9) only[go_sem]
 repeat refine And.intro (by first|omega|(constructor<;>omega)|kernel_rfl) ?_
 refine CallW.mk (toPoint_fn x2 hle2) ?_
 try simp (maxSteps:=9^9) only[go_sem]
 repeat refine And.intro (by first|omega|(constructor<;>omega)|kernel_rfl) ?_
 refine CallW.mk (toPoint_fn x3 hle3) ?_
 try simp (maxSteps:=9^9) only[go_sem]
 repeat refine And.intro (by first|omega|(constructor<;>omega)|kernel_rfl) ?_
 refine CallW.mk (MoveClearanceS_fn x0 n1 x2 x3) ?_
 try simp (maxSteps:=9^9) only[go_sem]
 repeat refine And.intro (by first|omega|(constructor<;>omega)|kernel_rfl) ?_
 refine CallW.mx (toScene_fn x0 hle0) ?_
 try simp (maxSteps:=9^9) only[go_sem]
 repeat refine And.intro (by first|omega|(constructor<;>omega)|kernel_rfl) ?_
 refine CallW.mx (toPoint_fn x2 hle2) ?_
 try simp (maxSteps:=9^9) only[go_sem]
 repeat refine And.intro (by first|omega|(constructor<;>omega)|kernel_rfl) ?_
 refine CallW.mx (toPoint_fn x3 hle3) ?_
 try simp (maxSteps:=9^9) only[go_sem]
 repeat refine And.intro (by first|omega|(constructor<;>omega)|kernel_rfl) ?_
 refine CallW.mx (MoveClearanceI_fn x0 n1 x2 x3) ?_
 try simp (maxSteps:=9^9) only[go_sem]
 repeat refine And.intro (by first|omega|(constructor<;>omega)|kernel_rfl) ?_
 refine CallW.mx (eqRat_fn (oD (mcD x0 n1 x2 x3)) (oD (mcD x0 n1 x2 x3))) ?_
 try simp (maxSteps:=9^9) only[go_sem]
 repeat refine And.intro (by first|omega|(constructor<;>omega)|kernel_rfl) ?_
 refine CallW.mk (toScene_fn x0 hle0) ?_
 try simp (maxSteps:=9^9) only[go_sem]
 repeat refine And.intro (by first|omega|(constructor<;>omega)|kernel_rfl) ?_
 refine CallW.mx (eqScene_fn x0 x0) ?_
 try simp (maxSteps:=9^9) only[go_sem]
 repeat refine And.intro (by first|omega|(constructor<;>omega)|kernel_rfl) ?_
 refine CallW.mk (toPoint_fn x2 hle2) ?_
 try simp (maxSteps:=9^9) only[go_sem]
 repeat refine And.intro (by first|omega|(constructor<;>omega)|kernel_rfl) ?_
 refine CallW.mx (eqPoint_fn x2 x2) ?_
 try simp (maxSteps:=9^9) only[go_sem]
 repeat refine And.intro (by first|omega|(constructor<;>omega)|kernel_rfl) ?_
 refine CallW.mk (toPoint_fn x3 hle3) ?_
 try simp (maxSteps:=9^9) only[go_sem]
 repeat refine And.intro (by first|omega|(constructor<;>omega)|kernel_rfl) ?_
 refine CallW.mx (eqPoint_fn x3 x3) ?_
 try simp (maxSteps:=9^9) only[go_sem]
 have hc0:Go.Proofs.YtffdhjnbppagjaaGreat.cnScene x0<=3145728:=by have:=Go.Proofs.YtffdhjnbppagjaaGreat.cnScene_le x0; omega
 repeat refine And.intro (by first|omega|(constructor<;>omega)|kernel_rfl) ?_
 refine CallW.m (markScene_fn x0 1 (by omega) (by omega)) ?_
 try simp (maxSteps:=9^9) only[go_sem]
 have hc2:Go.Proofs.YtffdhjnbppagjaaGreat.cnPoint x2<=3145728:=by have:=Go.Proofs.YtffdhjnbppagjaaGreat.cnPoint_le x2; omega
 repeat refine And.intro (by first|omega|(constructor<;>omega)|kernel_rfl) ?_
 refine CallW.m (markPoint_fn x2 (1+(Go.Proofs.YtffdhjnbppagjaaGreat.cnScene x0:Nat)) (by omega) (by omega)) ?_
 try simp (maxSteps:=9^9) only[go_sem]
 have hc3:Go.Proofs.YtffdhjnbppagjaaGreat.cnPoint x3<=3145728:=by have:=Go.Proofs.YtffdhjnbppagjaaGreat.cnPoint_le x3; omega
 repeat refine And.intro (by first|omega|(constructor<;>omega)|kernel_rfl) ?_
 refine CallW.m (markPoint_fn x3 (1+(Go.Proofs.YtffdhjnbppagjaaGreat.cnScene x0:Nat)+(Go.Proofs.YtffdhjnbppagjaaGreat.cnPoint x2:Nat)) (by omega) (by omega)) ?_
 try simp (maxSteps:=9^9) only[go_sem]
 have hkf:decide ((1:Int)+(Go.Proofs.YtffdhjnbppagjaaGreat.cnScene x0:Int)+(Go.Proofs.YtffdhjnbppagjaaGreat.cnPoint x2:Int)+(Go.Proofs.YtffdhjnbppagjaaGreat.cnPoint x3:Int) < 0)=false:=decide_eq_false (by omega)
 try simp (maxSteps:=9^9) only[go_sem,hkf]
 repeat refine And.intro (by first|omega|(constructor<;>omega)|kernel_rfl) ?_
 refine CallW.mx (eqRat_fn (oD (mcD x0 n1 x2 x3)) (oD (mcD x0 n1 x2 x3))) ?_
 try simp (maxSteps:=9^9) only[go_sem]
 have hcg:=cn_okO (okO_mcD x0 n1 x2 x3)
 repeat refine And.intro (by first|omega|(constructor<;>omega)|kernel_rfl) ?_
 refine CallW.m (markRat_fn (oD (mcD x0 n1 x2 x3)) 1 (by omega) (by omega)) ?_
 try simp (maxSteps:=9^9) only[go_sem]
 repeat refine And.intro (by first|omega|(constructor<;>omega)|kernel_rfl) ?_
 refine CallW.mx (heldRat_fn (oD (mcD x0 n1 x2 x3)) 1 (by omega) (by omega)) ?_
 try simp (maxSteps:=9^9) only[go_sem]
 repeat refine And.intro (by first|omega|(constructor<;>omega)|kernel_rfl) ?_
 refine CondW_dec (fun hlt=>absurd hlt (by omega)) (fun _=>?_)
 try simp (maxSteps:=9^9) only[go_sem]
 repeat refine And.intro (by first|omega|(constructor<;>omega)|kernel_rfl) ?_
 refine CallW.mk (toScene_fn x0 hle0) ?_
 try simp (maxSteps:=9^9) only[go_sem]
 repeat refine And.intro (by first|omega|(constructor<;>omega)|kernel_rfl) ?_
 refine CallW.mk (toPoint_fn x2 hle2) ?_
 try simp (maxSteps:=9^9) only[go_sem]
 repeat refine And.intro (by first|omega|(constructor<;>omega)|kernel_rfl) ?_
 refine CallW.mk (toPoint_fn x3 hle3) ?_
 try simp (maxSteps:=9^9) only[go_sem]
 repeat refine And.intro (by first|omega|(constructor<;>omega)|kernel_rfl) ?_
 refine CallW.mx (MoveClearanceI_fn x0 n1 x2 x3) ?_
 try simp (maxSteps:=9^9) only[go_sem]
 repeat refine And.intro (by first|omega|(constructor<;>omega)|kernel_rfl) ?_
 refine CallW.mx (eqRat_fn (oD (mcD x0 n1 x2 x3)) (oD (mcD x0 n1 x2 x3))) ?_
 try simp (maxSteps:=9^9) only[go_sem]
 repeat refine And.intro (by first|omega|(constructor<;>omega)|kernel_rfl) ?_
 refine CallW.mx (heldRat_fn (oD (mcD x0 n1 x2 x3)) 1 (by omega) (by omega)) ?_
 try simp (maxSteps:=9^9) only[go_sem]
 repeat refine And.intro (by first|omega|(constructor<;>omega)|kernel_rfl) ?_
 refine CondW_dec (fun hlt=>absurd hlt (by omega)) (fun _=>?_)
 try simp (maxSteps:=9^9) only[go_sem]
end Go.Proofs.YtffdhjnbppagjaaGreat.DW
namespace Go.Proofs.YtffdhjnbppagjaaGreat
open Go.RowKit DW
theorem law_FnExactMoveClearance (a0_0 a0_1 a0_2 a0_3 a0_4 a0_5 a0_6:Value) (x0:DScene) (n1:Int) (a2_0 a2_1 a2_2 a2_3 a2_4 a2_5:Value) (x2:DPoint) (a3_0 a3_1 a3_2 a3_3 a3_4 a3_5:Value) (x3:DPoint) (w:World) (hx0:Has RScene w [a0_0,a0_1,a0_2,a0_3,a0_4,a0_5,a0_6] x0) (hI1:I64 n1) (hx2:Has RPoint w [a2_0,a2_1,a2_2,a2_3,a2_4,a2_5] x2) (hx3:Has RPoint w [a3_0,a3_1,a3_2,a3_3,a3_4,a3_5] x3) :
  Calls Tryz.prog 3 #[.agg #[a0_0,a0_1,a0_2,a0_3,a0_4,a0_5,a0_6],.int .i64 n1,.agg #[a2_0,a2_1,a2_2,a2_3,a2_4,a2_5],.agg #[a3_0,a3_1,a3_2,a3_3,a3_4,a3_5]] w (Post fun r w'=>r=.bool true/\Below w.heap.size w w') :=
 (DW.lawMoveClearance_fn x0 n1 x2 x3).bool (vs:=[.agg #[a0_0,a0_1,a0_2,a0_3,a0_4,a0_5,a0_6],.int .i64 n1,.agg #[a2_0,a2_1,a2_2,a2_3,a2_4,a2_5],.agg #[a3_0,a3_1,a3_2,a3_3,a3_4,a3_5]]) ⟨Arg.agg (t:=DW.tScene) (cs:=[a0_0,a0_1,a0_2,a0_3,a0_4,a0_5,a0_6]) rfl hx0,Arg.int hI1,Arg.agg (t:=DW.tPoint) (cs:=[a2_0,a2_1,a2_2,a2_3,a2_4,a2_5]) rfl hx2,Arg.agg (t:=DW.tPoint) (cs:=[a3_0,a3_1,a3_2,a3_3,a3_4,a3_5]) rfl hx3,trivial⟩
end Go.Proofs.YtffdhjnbppagjaaGreat
