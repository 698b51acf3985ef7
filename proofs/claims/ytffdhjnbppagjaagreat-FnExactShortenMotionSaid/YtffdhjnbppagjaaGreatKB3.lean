/-
  Texts of a proof, one behind another: Held, LwH, Cn, Dw1, Dw2, Num, NumB, Dw3, Dw4, Dw5, Flt, FltD, Dw6, Dw7, Dw8, Z, Dw9, Dw10, Dw11, Dw12, Dw13, Dw16, Dw18, Dw21.
-/
import Derived.Test.YtffdhjnbppagjaaGreatProg
import Derived.Laws.FloatArith
import Derived.Test.YtffdhjnbppagjaaGreatKB2
set_option linter.all false
namespace Go.Proofs.YtffdhjnbppagjaaGreat
open Go.RowKit
set_option maxHeartbeats 400000 in
theorem heldIntS_any (v:Value) (x:DIntS) (k:Int) (w:World) (hx:Has RIntS w [v] (mkIntS x k)) (h0:0<=k) (h1:k+x.length<=1073741824) :
  Calls Tryz.prog 51 #[v,.int .i64 k] w (Post (HeldPost (k+x.length) w)):=by
 obtain ⟨ad,c,rfl,hc,hm,hg⟩:=hx.elems
 have hml:(mkIntS x k).length=x.length:=by simp [mkIntS]
 have hget:∀ j,j < x.length->∃ b off,ad=some ⟨b,off,none⟩/\b < w.heap.size/\w.cell? ⟨b,off+j,none⟩=some (.int .i64 (k+(j:Nat))):=by
  intro j hj
  obtain ⟨b,off,cs,ha,hb,hx,hcs⟩:=hg j (by omega)
  obtain ⟨c0,rfl⟩:=list1 hx.len
  have he:=hx.int.1
  refine ⟨b,off,ha,hb,?_⟩
  have h:=hcs 0 _ rfl
  rw [he] at h
  simpa [Rp.int,mkIntS] using h
 rw [hml] at hc ⊢
 unfold maxLen at hm
 have HG:=Lib.hid hget; clear hget hg hx hml
 go_enter Tryz.func51,Tryz.ntmps51
 go_wp2
 go_loopw [1,5] (fun kk i wr=>∃ j:Nat,j<=x.length/\i=.int .i64 j/\kk=.int .i64 (k+(j:Nat))/\Below w.heap.size w wr) (fun _ i _=>x.length - (intOf i).toNat)
 case atStart=>exact ⟨0,Nat.zero_le _,rfl,congrArg (Value.int .i64) (by simp),Below.refl _ _⟩
 case round =>
  obtain ⟨j,hj,rfl,rfl,hbw⟩:=hrel
  by_cases hjl:j < x.length
  rotate_left
  ·obtain rfl:j=x.length:=by omega
   go_wp2
   go_ret
   exact ⟨_,rfl,rfl,hbw⟩
  obtain ⟨b,off,rfl,hbl,hcell⟩:=HG.out j hjl
  have g0:wr.cell? ⟨b,off+j,none⟩=some (.int .i64 (k+(j:Nat))):=(hbw.cell (p:=⟨b,_,none⟩) hbl).trans hcell
  clear hcell
  go_wp2
  go_roundw
  case rel=>exact ⟨j+1,by omega,by go_num,congrArg (Value.int .i64) (by omega),hbw⟩
  case measure=>simp [intOf]; omega
set_option maxRecDepth 100000 in
set_option maxHeartbeats 400000 in
theorem heldBigInt_any (c0 c1:Value) (x:DBigInt) (k:Int) (w:World) (hx:Has RBigInt w [c0,c1] (mkBigInt x k)) (h0:0<=k) (h1:k+cnBigInt x<=1073741824) :
  Calls Tryz.prog 91 #[.agg #[c0,c1],.int .i64 k] w (Post (HeldPost (k+cnBigInt x) w)):=by
 obtain ⟨hx0,hx1⟩:=hx.split [c0] [c1] rfl
 have HX1:=Lib.hid (show Has RIntS w [c1] (mkIntS x.2 k) from hx1)
 clear hx hx0 hx1
 have hub:=h1; unfold cnBigInt at hub
 have hp1:(0:Int)<=(x.2.length:Nat):=Int.natCast_nonneg _
 have hend:k+(x.2.length:Nat)=k+(cnBigInt x:Nat):=by unfold cnBigInt; omega
 have HEND:=Lib.hid hend; clear hend
 go_enter Tryz.func91,Tryz.ntmps91
 have hb0:=(Below.refl w.heap.size w).alloc (Nat.le_refl _) (Obj.cells #[c0,c1] 37)
 go_wp2_with fail
 refine (heldIntS_any _ _ _ _ (HX1.out.below hb0) (by omega) (by omega)).mono ?_
 rintro e w1 ⟨v,rfl,rfl,hbx1⟩
 have hb1:=Below.up hb0 hbx1 hb0.size
 go_wp2
 go_ret
 exact ⟨_,rfl,congrArg (Value.int .i64) HEND.out,hb1⟩
set_option maxRecDepth 100000 in
set_option maxHeartbeats 400000 in
theorem heldRat_any (c0 c1 c2:Value) (x:DRat) (k:Int) (w:World) (hx:Has RRat w [c0,c1,c2] (mkRat x k)) (h0:0<=k) (h1:k+cnRat x<=1073741824) :
  Calls Tryz.prog 23 #[.agg #[c0,c1,c2],.int .i64 k] w (Post (HeldPost (k+cnRat x) w)):=by
 obtain ⟨hx0,hx1⟩:=hx.split [c0,c1] [c2] rfl
 have HX0:=Lib.hid (show Has RBigInt w [c0,c1] (mkBigInt x.1 k) from hx0)
 have HX1:=Lib.hid (show Has RIntS w [c2] (mkIntS x.2 (k+(cnBigInt x.1:Nat))) from hx1)
 clear hx hx0 hx1
 have hub:=h1; unfold cnRat at hub
 have hp0:(0:Int)<=(cnBigInt x.1:Nat):=Int.natCast_nonneg _
 have hp1:(0:Int)<=(x.2.length:Nat):=Int.natCast_nonneg _
 have hend:k+(cnBigInt x.1:Nat)+(x.2.length:Nat)=k+(cnRat x:Nat):=by unfold cnRat; omega
 have HEND:=Lib.hid hend; clear hend
 go_enter Tryz.func23,Tryz.ntmps23
 have hb0:=(Below.refl w.heap.size w).alloc (Nat.le_refl _) (Obj.cells #[c0,c1,c2] 39)
 go_wp2_with fail
 refine (heldBigInt_any _ _ _ _ _ (HX0.out.below hb0) (by omega) (by omega)).mono ?_
 rintro e w1 ⟨v,rfl,rfl,hbx1⟩
 have hb1:=Below.up hb0 hbx1 hb0.size
 obtain ⟨hc1,hf1⟩:=bcell hbx1
 go_wp2_with fail
 refine (heldIntS_any _ _ _ _ (HX1.out.below hb1) (by omega) (by omega)).mono ?_
 rintro e w2 ⟨v,rfl,rfl,hbx2⟩
 have hb2:=Below.up hb1 hbx2 hb1.size
 go_wp2
 go_ret
 exact ⟨_,rfl,congrArg (Value.int .i64) HEND.out,hb2⟩
set_option maxRecDepth 100000 in
set_option maxHeartbeats 1000000 in
theorem heldStepS_any (v:Value) (x:DStepS) (k:Int) (w:World) (hx:Has RStepS w [v] (mkStepS x k)) (h0:0<=k) (h1:k+cnStepS x<=1073741824) :
  Calls Tryz.prog 42 #[v,.int .i64 k] w (Post (HeldPost (k+cnStepS x) w)):=by
 obtain ⟨ad,c,rfl,hc,hm,hg⟩:=hx.elems
 rw [mkStepS_len] at hc ⊢
 have hget:∀ j (hj:j < x.length),∃ b off cs,ad=some ⟨b,off,none⟩/\b < w.heap.size/\Has RStep w cs (emStep x[j] (k+(cnStepS (x.take j):Nat)))/\∀ i u,cs[i]? = some u->w.cell? ⟨b,off+j * RStep.size+i,none⟩=some u:=by
  intro j hj
  obtain ⟨b,off,cs,ha,hb,hx,hcs⟩:=hg j (by rw [mkStepS_len]; exact hj)
  have he:=mkStepS_get x k j x[j] (List.getElem?_eq_getElem hj)
  rw [List.getElem?_eq_getElem (by rw [mkStepS_len]; exact hj)] at he
  injection he with he
  rw [he] at hx
  exact ⟨b,off,cs,ha,hb,hx,hcs⟩
 unfold maxLen at hm
 have HG:=Lib.hid hget; clear hget hg hx
 go_enter Tryz.func42,Tryz.ntmps42
 go_wp2
 go_loopw [1,5] (fun kk i wr=>∃ j:Nat,j<=x.length/\i=.int .i64 j/\kk=.int .i64 (k+(cnStepS (x.take j):Nat))/\Below w.heap.size w wr) (fun _ i _=>x.length - (intOf i).toNat)
 case atStart=>exact ⟨0,Nat.zero_le _,rfl,congrArg (Value.int .i64) (by simp [cnStepS]),Below.refl _ _⟩
 case round =>
  obtain ⟨j,hj,rfl,rfl,hbw⟩:=hrel
  by_cases hjl:j < x.length
  rotate_left
  ·obtain rfl:j=x.length:=by omega
   go_wp2
   go_ret
   exact ⟨_,rfl,congrArg (Value.int .i64) (by rw [List.take_length]),hbw⟩
  obtain ⟨b,off,cs,rfl,hbl,hx,hcs⟩:=HG.out j hjl
  obtain ⟨c0,c1,c2,c3,c4,c5,c6,rfl⟩:=list7 hx.len
  have hec:cnStepS (x.take j)+ecStep x[j]=cnStepS (x.take (j+1)):=by rw [List.take_succ_eq_append_getElem hjl,cnStepS_snoc]
  have hect:=cnStepS_take x (j+1)
  obtain ⟨q,hq⟩:∃ q:Int,q=k+(cnStepS (x.take j):Nat):=⟨_,rfl⟩
  have hq0:0<=q:=by omega
  have hq1:q+(ecStep x[j]:Nat)<=1073741824:=by omega
  rw [<-hq] at hx ⊢
  have HQ:=Lib.hid hq; have HEC:=Lib.hid hec
  clear hq hec hect
  obtain ⟨hp0,hp1⟩:=Has.split (A:=Rp.int) [c0] [c1,c2,c3,c4,c5,c6] rfl hx
  obtain ⟨hp2,hp3⟩:=Has.split (A:=RRat) [c1,c2,c3] [c4,c5,c6] rfl hp1
  obtain ⟨hp4,hp5⟩:=Has.split (A:=RBigInt) [c1,c2] [c3] rfl hp2
  obtain ⟨hp6,hp7⟩:=Has.split (A:=Rp.bool) [c1] [c2] rfl hp4
  obtain ⟨hp8,hp9⟩:=Has.split (A:=RBigInt) [c4,c5] [c6] rfl hp3
  obtain ⟨hp10,hp11⟩:=Has.split (A:=Rp.bool) [c4] [c5] rfl hp8
  have hv0:c0=.int .i64 (q):=hp0.int.1.trans (congrArg (Value.int .i64) (by first|rfl|(simp only [ecStep,ecPoint,ecRat,ecBigInt]; omega)))
  have hv1:c1=.bool ((q+1) % 3 == 0):=hp6.bool.trans (congrArg (fun t:Int=>Value.bool (t % 3 == 0)) (by first|rfl|(simp only [ecStep,ecPoint,ecRat,ecBigInt]; omega)))
  have HX0:=Lib.hid (Has.cast (b:=mkIntS x[j].2.1.1.2 (q+1+1)) hp7 (congrArg (mkIntS _) (by first|rfl|(simp only [ecStep,ecPoint,ecRat,ecBigInt]; omega))))
  have hl0:(0:Int)<=(x[j].2.1.1.2.length:Nat):=Int.natCast_nonneg _
  have HX1:=Lib.hid (Has.cast (b:=mkIntS x[j].2.1.2 (q+1+1+(x[j].2.1.1.2.length:Nat))) hp5 (congrArg (mkIntS _) (by first|rfl|(simp only [ecStep,ecPoint,ecRat,ecBigInt]; omega))))
  have hl1:(0:Int)<=(x[j].2.1.2.length:Nat):=Int.natCast_nonneg _
  have hv4:c4=.bool ((q+1+1+(x[j].2.1.1.2.length:Nat)+(x[j].2.1.2.length:Nat)) % 3 == 0):=hp10.bool.trans (congrArg (fun t:Int=>Value.bool (t % 3 == 0)) (by first|rfl|(simp only [ecStep,ecPoint,ecRat,ecBigInt]; omega)))
  have HX2:=Lib.hid (Has.cast (b:=mkIntS x[j].2.2.1.2 (q+1+1+(x[j].2.1.1.2.length:Nat)+(x[j].2.1.2.length:Nat)+1)) hp11 (congrArg (mkIntS _) (by first|rfl|(simp only [ecStep,ecPoint,ecRat,ecBigInt]; omega))))
  have hl2:(0:Int)<=(x[j].2.2.1.2.length:Nat):=Int.natCast_nonneg _
  have HX3:=Lib.hid (Has.cast (b:=mkIntS x[j].2.2.2 (q+1+1+(x[j].2.1.1.2.length:Nat)+(x[j].2.1.2.length:Nat)+1+(x[j].2.2.1.2.length:Nat))) hp9 (congrArg (mkIntS _) (by first|rfl|(simp only [ecStep,ecPoint,ecRat,ecBigInt]; omega))))
  have hl3:(0:Int)<=(x[j].2.2.2.length:Nat):=Int.natCast_nonneg _
  have hqe:=hq1; simp only [ecStep,ecPoint,ecRat,ecBigInt] at hqe
  have g0:wr.cell? ⟨b,off+j * 7,none⟩=some (.int .i64 (q)):=(hbw.cell (p:=⟨b,_,none⟩) hbl).trans ((hcs 0 _ rfl).trans (congrArg some hv0))
  have g1:wr.cell? ⟨b,off+j * 7+1,none⟩=some (.bool ((q+1) % 3 == 0)):=(hbw.cell (p:=⟨b,_,none⟩) hbl).trans ((hcs 1 _ rfl).trans (congrArg some hv1))
  have g2:wr.cell? ⟨b,off+j * 7+2,none⟩=some c2:=(hbw.cell (p:=⟨b,_,none⟩) hbl).trans (hcs 2 _ rfl)
  have g3:wr.cell? ⟨b,off+j * 7+3,none⟩=some c3:=(hbw.cell (p:=⟨b,_,none⟩) hbl).trans (hcs 3 _ rfl)
  have g4:wr.cell? ⟨b,off+j * 7+4,none⟩=some (.bool ((q+1+1+(x[j].2.1.1.2.length:Nat)+(x[j].2.1.2.length:Nat)) % 3 == 0)):=(hbw.cell (p:=⟨b,_,none⟩) hbl).trans ((hcs 4 _ rfl).trans (congrArg some hv4))
  have g5:wr.cell? ⟨b,off+j * 7+5,none⟩=some c5:=(hbw.cell (p:=⟨b,_,none⟩) hbl).trans (hcs 5 _ rfl)
  have g6:wr.cell? ⟨b,off+j * 7+6,none⟩=some c6:=(hbw.cell (p:=⟨b,_,none⟩) hbl).trans (hcs 6 _ rfl)
  have hbl0:b < wr.heap.size:=Nat.lt_of_lt_of_le hbl hbw.size
  clear hcs hx hp0 hp1 hp2 hp3 hp4 hp5 hp6 hp7 hp8 hp9 hp10 hp11 hv0 hv1 hv4
  go_wp2_with fail
  refine (heldIntS_any _ _ _ _ (HX0.out.below hbw) (by omega) (by omega)).mono ?_
  rintro e w1 ⟨v,rfl,rfl,hbx1⟩
  have hb1:=Below.up hbw hbx1 hbw.size
  have hbl1:b < w1.heap.size:=Nat.lt_of_lt_of_le hbl0 hbx1.size
  have hc1:=fun o=>hbx1.cell (p:=⟨b,o,none⟩) hbl0
  go_wp2_with fail
  refine (heldIntS_any _ _ _ _ (HX1.out.below hb1) (by omega) (by omega)).mono ?_
  rintro e w2 ⟨v,rfl,rfl,hbx2⟩
  have hb2:=Below.up hb1 hbx2 hb1.size
  have hbl2:b < w2.heap.size:=Nat.lt_of_lt_of_le hbl1 hbx2.size
  have hc2:=fun o=>hbx2.cell (p:=⟨b,o,none⟩) hbl1
  go_wp2_with fail
  refine (heldIntS_any _ _ _ _ (HX2.out.below hb2) (by omega) (by omega)).mono ?_
  rintro e w3 ⟨v,rfl,rfl,hbx3⟩
  have hb3:=Below.up hb2 hbx3 hb2.size
  have hbl3:b < w3.heap.size:=Nat.lt_of_lt_of_le hbl2 hbx3.size
  have hc3:=fun o=>hbx3.cell (p:=⟨b,o,none⟩) hbl2
  go_wp2_with fail
  refine (heldIntS_any _ _ _ _ (HX3.out.below hb3) (by omega) (by omega)).mono ?_
  rintro e w4 ⟨v,rfl,rfl,hbx4⟩
  have hb4:=Below.up hb3 hbx4 hb3.size
  have hbl4:b < w4.heap.size:=Nat.lt_of_lt_of_le hbl3 hbx4.size
  have hc4:=fun o=>hbx4.cell (p:=⟨b,o,none⟩) hbl3
  go_wp2
  go_roundw
  case rel =>
   exact ⟨j+1,by omega,by go_num,congrArg (Value.int .i64) (by have h1:=HQ.out; have h2:=HEC.out; simp only [ecStep,ecPoint,ecRat,ecBigInt] at h2; omega),hb4⟩
  case measure=>simp [intOf]; omega
end Go.Proofs.YtffdhjnbppagjaaGreat

namespace Go.Proofs.YtffdhjnbppagjaaGreat.DW
open Go.RowKit
theorem eqRat_fn (x y:DRat):Fn Tryz.prog 17 [⟨DW.tRat,x⟩,⟨DW.tRat,y⟩] false [⟨.bool,eqb x y⟩]:=by
 refine Fn.ofEq (enters Tryz.func17 rfl rfl) fun w v cs u ds hp hx hq hy=>?_
 obtain rfl:=pk_agg rfl hp
 obtain ⟨c0,c1,c2,rfl⟩:=list3 hx.len
 obtain rfl:=pk_agg rfl hq
 obtain ⟨d0,d1,d2,rfl⟩:=list3 hy.len
 exact eqRat_any _ _ _ _ _ _ x y w hx hy
theorem markRat_fn (x:DRat) (k:Int) (h0:0<=k) (h1:k+cnRat x<=1073741824):FnM Tryz.prog 22 DW.tRat x (mkRat x k) k (k+cnRat x):=by
 refine FnM.of (enters Tryz.func22 rfl rfl) (small_I64 (by omega) h1) fun w v cs fp hp hx hn hf=>?_
 obtain rfl:=pk_agg rfl hp
 obtain ⟨c0,c1,c2,rfl⟩:=list3 (Rp.len _ hx)
 exact markRat_any _ _ _ x k fp w hx hn hf h0 h1
theorem heldRat_fn (x:DRat) (k:Int) (h0:0<=k) (h1:k+cnRat x<=1073741824):Fn Tryz.prog 23 [⟨DW.tRat,mkRat x k⟩,⟨.int,k⟩] false [⟨.int,k+cnRat x⟩]:=by
 refine Fn.ofInt (enters Tryz.func23 rfl rfl) (small_I64 (by omega) h1) fun w v cs hp hx=>?_
 obtain rfl:=pk_agg rfl hp
 obtain ⟨c0,c1,c2,rfl⟩:=list3 hx.len
 exact heldRat_any _ _ _ x k w hx h0 h1
theorem szPoint_fn (x:DPoint) (left:Int) (h0:0<=left) (h1:left<=1048576):Fn Tryz.prog 12 [⟨DW.tPoint,x⟩,⟨.int,left⟩] false [⟨.int,szr left (Go.Proofs.YtffdhjnbppagjaaGreat.tPoint x)⟩]:=by
 refine Fn.ofInt (enters Tryz.func12 rfl rfl) (szr_I64 h0 h1) fun w v cs hp hx=>?_
 obtain rfl:=pk_agg rfl hp
 obtain ⟨c0,c1,c2,c3,c4,c5,rfl⟩:=list6 hx.len
 exact szPoint_any _ _ _ _ _ _ x left w hx h0 h1
theorem toPoint_fn (x:DPoint) (hs:Go.Proofs.YtffdhjnbppagjaaGreat.tPoint x<=1048576):Fn Tryz.prog 15 [⟨DW.tPoint,x⟩] true [⟨DW.tPoint,x⟩]:=by
 refine Fn.ofOwn (enters Tryz.func15 rfl rfl) fun w v cs hp hx=>?_
 obtain rfl:=pk_agg rfl hp
 obtain ⟨c0,c1,c2,c3,c4,c5,rfl⟩:=list6 hx.len
 exact (toPoint_any _ _ _ _ _ _ x w hx hs).mono fun e w' ⟨v,he,⟨cs,hv,ho⟩,hb⟩=>⟨v,he,⟨cs,.inl ⟨rfl,hv⟩,ho⟩,hb⟩
theorem eqPoint_fn (x y:DPoint):Fn Tryz.prog 19 [⟨DW.tPoint,x⟩,⟨DW.tPoint,y⟩] false [⟨.bool,eqb x y⟩]:=by
 refine Fn.ofEq (enters Tryz.func19 rfl rfl) fun w v cs u ds hp hx hq hy=>?_
 obtain rfl:=pk_agg rfl hp
 obtain ⟨c0,c1,c2,c3,c4,c5,rfl⟩:=list6 hx.len
 obtain rfl:=pk_agg rfl hq
 obtain ⟨d0,d1,d2,d3,d4,d5,rfl⟩:=list6 hy.len
 exact eqPoint_any _ _ _ _ _ _ _ _ _ _ _ _ x y w hx hy
theorem markPoint_fn (x:DPoint) (k:Int) (h0:0<=k) (h1:k+cnPoint x<=1073741824):FnM Tryz.prog 21 DW.tPoint x (mkPoint x k) k (k+cnPoint x):=by
 refine FnM.of (enters Tryz.func21 rfl rfl) (small_I64 (by omega) h1) fun w v cs fp hp hx hn hf=>?_
 obtain rfl:=pk_agg rfl hp
 obtain ⟨c0,c1,c2,c3,c4,c5,rfl⟩:=list6 (Rp.len _ hx)
 exact markPoint_any _ _ _ _ _ _ x k fp w hx hn hf h0 h1
theorem szPlacement_fn (x:DPlacement) (left:Int) (h0:0<=left) (h1:left<=1048576):Fn Tryz.prog 24 [⟨DW.tStep,x⟩,⟨.int,left⟩] false [⟨.int,szr left (Go.Proofs.YtffdhjnbppagjaaGreat.tPlacement x)⟩]:=by
 refine Fn.ofInt (enters Tryz.func24 rfl rfl) (szr_I64 h0 h1) fun w v cs hp hx=>?_
 obtain rfl:=pk_agg rfl hp
 obtain ⟨c0,c1,c2,c3,c4,c5,c6,rfl⟩:=list7 hx.len
 exact szPlacement_any _ _ _ _ _ _ _ x left w hx h0 h1
theorem toPlacement_fn (x:DPlacement) (hs:Go.Proofs.YtffdhjnbppagjaaGreat.tPlacement x<=1048576):Fn Tryz.prog 27 [⟨DW.tStep,x⟩] true [⟨DW.tStep,x⟩]:=by
 refine Fn.ofOwn (enters Tryz.func27 rfl rfl) fun w v cs hp hx=>?_
 obtain rfl:=pk_agg rfl hp
 obtain ⟨c0,c1,c2,c3,c4,c5,c6,rfl⟩:=list7 hx.len
 exact (toPlacement_any _ _ _ _ _ _ _ x w hx hs).mono fun e w' ⟨v,he,⟨cs,hv,ho⟩,hb⟩=>⟨v,he,⟨cs,.inl ⟨rfl,hv⟩,ho⟩,hb⟩
theorem eqPlacement_fn (x y:DPlacement):Fn Tryz.prog 30 [⟨DW.tStep,x⟩,⟨DW.tStep,y⟩] false [⟨.bool,eqb x y⟩]:=by
 refine Fn.ofEq (enters Tryz.func30 rfl rfl) fun w v cs u ds hp hx hq hy=>?_
 obtain rfl:=pk_agg rfl hp
 obtain ⟨c0,c1,c2,c3,c4,c5,c6,rfl⟩:=list7 hx.len
 obtain rfl:=pk_agg rfl hq
 obtain ⟨d0,d1,d2,d3,d4,d5,d6,rfl⟩:=list7 hy.len
 exact eqPlacement_any _ _ _ _ _ _ _ _ _ _ _ _ _ _ x y w hx hy
theorem markPlacement_fn (x:DPlacement) (k:Int) (h0:0<=k) (h1:k+cnPlacement x<=1073741824):FnM Tryz.prog 40 DW.tStep x (mkPlacement x k) k (k+cnPlacement x):=by
 refine FnM.of (enters Tryz.func40 rfl rfl) (small_I64 (by omega) h1) fun w v cs fp hp hx hn hf=>?_
 obtain rfl:=pk_agg rfl hp
 obtain ⟨c0,c1,c2,c3,c4,c5,c6,rfl⟩:=list7 (Rp.len _ hx)
 exact markPlacement_any _ _ _ _ _ _ _ x k fp w hx hn hf h0 h1
theorem szStepS_fn (x:DStepS) (left:Int) (h0:0<=left) (h1:left<=1048576):Fn Tryz.prog 25 [⟨(.slice DW.tStep),x⟩,⟨.int,left⟩] false [⟨.int,szr left ((x.length+Go.Proofs.YtffdhjnbppagjaaGreat.tStepS x))⟩]:=by
 refine Fn.ofInt (enters Tryz.func25 rfl rfl) (szr_I64 h0 h1) fun w v cs hp hx=>?_
 obtain rfl:=pk_one rfl hp
 exact szStepS_any _ x left w hx h0 h1
theorem toStepS_fn (x:DStepS) (hs:(x.length+Go.Proofs.YtffdhjnbppagjaaGreat.tStepS x)<=1048576):Fn Tryz.prog 28 [⟨(.slice DW.tStep),x⟩] true [⟨(.slice DW.tStep),x⟩]:=by
 refine Fn.ofOwn (enters Tryz.func28 rfl rfl) fun w v cs hp hx=>?_
 obtain rfl:=pk_one rfl hp
 exact (toStepS_any _ x w hx hs).mono fun e w' ⟨v,he,ho,hb⟩=>⟨v,he,⟨[v],.inr ⟨rfl,rfl⟩,ho⟩,hb⟩
theorem eqStepS_fn (x y:DStepS):Fn Tryz.prog 31 [⟨(.slice DW.tStep),x⟩,⟨(.slice DW.tStep),y⟩] false [⟨.bool,eqb x y⟩]:=by
 refine Fn.ofEq (enters Tryz.func31 rfl rfl) fun w v cs u ds hp hx hq hy=>?_
 obtain rfl:=pk_one rfl hp
 obtain rfl:=pk_one rfl hq
 exact eqStepS_any _ _ x y w hx hy
theorem markStepS_fn (x:DStepS) (k:Int) (h0:0<=k) (h1:k+cnStepS x<=1073741824):FnM Tryz.prog 41 (.slice DW.tStep) x (mkStepS x k) k (k+cnStepS x):=by
 refine FnM.of (enters Tryz.func41 rfl rfl) (small_I64 (by omega) h1) fun w v cs fp hp hx hn hf=>?_
 obtain rfl:=pk_one rfl hp
 exact markStepS_any _ x k fp w hx hn hf h0 h1
theorem heldStepS_fn (x:DStepS) (k:Int) (h0:0<=k) (h1:k+cnStepS x<=1073741824):Fn Tryz.prog 42 [⟨(.slice DW.tStep),mkStepS x k⟩,⟨.int,k⟩] false [⟨.int,k+cnStepS x⟩]:=by
 refine Fn.ofInt (enters Tryz.func42 rfl rfl) (small_I64 (by omega) h1) fun w v cs hp hx=>?_
 obtain rfl:=pk_one rfl hp
 exact heldStepS_any _ x k w hx h0 h1
@[go_sem] theorem mkBigInt_sc0 (x:DBigInt) (k:Int):(mkBigInt x k).1=x.1:=(rfl)
@[go_sem] theorem mkRat_sc0 (x:DRat) (k:Int):(mkRat x k).1.1=x.1.1:=(rfl)
@[go_sem] theorem mkPoint_sc0 (x:DPoint) (k:Int):(mkPoint x k).1.1.1=x.1.1.1:=(rfl)
@[go_sem] theorem mkPoint_sc1 (x:DPoint) (k:Int):(mkPoint x k).2.1.1=x.2.1.1:=(rfl)
@[go_sem] theorem mkPlacement_sc0 (x:DPlacement) (k:Int):(mkPlacement x k).1=x.1:=(rfl)
@[go_sem] theorem mkPlacement_sc1 (x:DPlacement) (k:Int):(mkPlacement x k).2.1.1.1=x.2.1.1.1:=(rfl)
@[go_sem] theorem mkPlacement_sc2 (x:DPlacement) (k:Int):(mkPlacement x k).2.2.1.1=x.2.2.1.1:=(rfl)
end Go.Proofs.YtffdhjnbppagjaaGreat.DW

namespace Go.Proofs.YtffdhjnbppagjaaGreat
open Go.RowKit in
theorem Has.of {α:Type} {A:Rp α} {w:World} {cs:List Value} {a:α} {fp:List Nat} (h:A.rep w cs a fp):Has A w cs a:=⟨fp,h⟩
theorem cnStepS_eq (l:DStepS):cnStepS l=3 * l.length+tStepS l:=by
 induction l with
 | nil=>rfl
 | cons x l ih =>
  simp only [cnStepS,tStepS,List.length_cons,ih]
  simp only [ecStep,ecPoint,ecRat,ecBigInt,tStep,tPoint,tRat,tBigInt]
  omega
theorem cnStepS_le (l:DStepS):cnStepS l<=3 * (l.length+tStepS l):=by have:=cnStepS_eq l; omega
theorem cnPoint_le (x:DPoint):cnPoint x<=3 * tPoint x:=by simp only [cnPoint,cnRat,cnBigInt,tPoint,tRat,tBigInt]; omega
theorem cnPlacement_le (x:DPlacement):cnPlacement x<=3 * tPlacement x:=cnPoint_le x.2
theorem cnRat_le (x:DRat):cnRat x<=3 * tRat x:=by simp only [cnRat,cnBigInt,tRat,tBigInt]; omega
end Go.Proofs.YtffdhjnbppagjaaGreat

namespace Go.Proofs.YtffdhjnbppagjaaGreat.DW
open Go.RowKit
theorem limb_fn (l:List Int) (i:Int) (h0:0<=i):Fn Tryz.prog 314 [⟨tInts,l⟩,⟨.int,i⟩] false [⟨.int,ni l i.toNat⟩]:=by
 refine fn_enter tabOK mixes Tryz.func314 rfl rfl _ Tryz.ntmps314 _ Tryz.results314 (by simp) fun hwf=>?_
 try simp (maxSteps:=9^9) only[go_sem]
 refine CondW_dec (fun hc=>?_) (fun hc=>?_)
 ·try simp (maxSteps:=9^9) only[go_sem]
  exact ⟨h0,hc⟩
 ·try simp (maxSteps:=9^9) only[go_sem]
  exact (ni_ge (by omega)).symm
def cmpI (a b:Int):Int:=if a < b then -1 else if b < a then 1 else 0
def cmpR (a b:List Int):Nat->Int
 | 0=>0
 | k+1=>if ni a k=ni b k then cmpR a b k else cmpI (ni a k) (ni b k)
def cmpL (a b:List Int):Int:=if a.length=b.length then cmpR a b a.length else cmpI a.length b.length
theorem cmpR_step {a b:List Int} {i:Int} (h:0<=i):cmpR a b (i+1).toNat=if ni a i.toNat=ni b i.toNat then cmpR a b i.toNat else cmpI (ni a i.toNat) (ni b i.toNat):=by
 rw [show (i+1).toNat=i.toNat+1 by omega]; rfl
theorem l02Cmp_fn (a b:List Int):Fn Tryz.prog 309 [⟨tInts,a⟩,⟨tInts,b⟩] false [⟨.int,cmpL a b⟩]:=by
 refine fn_enter tabOK mixes Tryz.func309 rfl rfl _ Tryz.ntmps309 _ Tryz.results309 (by simp) fun hwf=>?_
 have ha:a.length<=9223372036854775807:=(hwf ⟨tInts,a⟩ (by simp)).1
 try simp (maxSteps:=9^9) only[go_sem]
 refine CondW_not (fun h=>?_) (fun h=>?_)
 ·have hc:cmpL a b=cmpI a.length b.length:=if_neg (by omega)
  try simp (maxSteps:=9^9) only[go_sem]
  refine CondW_dec (fun h2=>?_) (fun h2=>?_)
  ·try simp (maxSteps:=9^9) only[go_sem]
   rw [hc,cmpI,if_pos h2]
  ·try simp (maxSteps:=9^9) only[go_sem]
   rw [hc,cmpI,if_neg h2,if_pos (by omega)]
 ·have hc:cmpL a b=cmpR a b a.length:=if_pos (by omega)
  try simp (maxSteps:=9^9) only[go_sem]
  refine ⟨by constructor<;>omega,?_⟩
  refine LoopG.intro _ _ _ (fun i:Int=>⟨[(0,.sl .int a),(1,.sl .int b),(5,.sc (.int .i64 i))],[]⟩) (fun i=>-1<=i/\i < a.length/\cmpR a b (i+1).toNat=cmpL a b) (fun i=>(i+1).toNat) (a.length - 1) ?_ ⟨by omega,by omega,by rw [hc]; congr 1; omega⟩ ?_
  ·refine Wk.mk [] ?_
   try simp (maxSteps:=9^9) only[go_sem]
   try (and_intros<;>first|rfl|omega|exact ⟨_,rfl⟩)
  ·rintro i ⟨h1,h2,h3⟩
   try simp (maxSteps:=9^9) only[go_sem]
   refine CondW_dec (fun h4=>?_) (fun h4=>?_)
   ·rw [cmpR_step h4] at h3
    try simp (maxSteps:=9^9) only[go_sem]
    refine ⟨h4,h2,h4,by omega,by kernel_rfl,?_⟩
    refine CondW_dec (fun h5=>?_) (fun h5=>?_)
    ·try simp (maxSteps:=9^9) only[go_sem]
     rw [<-h3,if_neg (by omega),cmpI,if_pos h5]
    ·try simp (maxSteps:=9^9) only[go_sem]
     refine ⟨h4,h2,h4,by omega,by kernel_rfl,?_⟩
     refine CondW_dec (fun h6=>?_) (fun h6=>?_)
     ·try simp (maxSteps:=9^9) only[go_sem]
      rw [<-h3,if_neg (by omega),cmpI,if_neg h5,if_pos h6]
     ·rw [if_pos (by omega)] at h3
      try simp (maxSteps:=9^9) only[go_sem]
      refine ⟨by constructor<;>omega,LoopK.mk (i - 1) ?_ ⟨by omega,by omega,by rw [<-h3]; congr 1; omega⟩ (by omega)⟩
      refine Wk.mk [] ?_
      try simp (maxSteps:=9^9) only[go_sem]
      try (and_intros<;>first|rfl|omega|exact ⟨_,rfl⟩)
   ·try simp (maxSteps:=9^9) only[go_sem]
    rw [<-h3,show (i+1).toNat=0 by omega]; rfl
theorem isNaN_fn (a:Int):Fn Tryz.prog 353 [⟨.int,a⟩] false [⟨.bool,false⟩]:=by
 refine fn_enter tabOK mixes Tryz.func353 rfl rfl _ Tryz.ntmps353 _ Tryz.results353 (by simp) fun hwf=>?_
 try simp (maxSteps:=9^9) only[go_sem]
theorem compare_fn (a b:Int):Fn Tryz.prog 336 [⟨.int,a⟩,⟨.int,b⟩] false [⟨.int,cmpI a b⟩]:=by
 refine fn_enter tabOK mixes Tryz.func336 rfl rfl _ Tryz.ntmps336 _ Tryz.results336 (by simp) fun hwf=>?_
 try simp (maxSteps:=9^9) only[go_sem]
 repeat refine And.intro (by first|omega|(constructor<;>omega)|kernel_rfl) ?_
 refine CallW.mk (isNaN_fn a) ?_
 try simp (maxSteps:=9^9) only[go_sem]
 repeat refine And.intro (by first|omega|(constructor<;>omega)|kernel_rfl) ?_
 refine CallW.mk (isNaN_fn b) ?_
 try simp (maxSteps:=9^9) only[go_sem]
 refine CondW_dec (fun h=>?_) (fun h=>?_)
 ·try simp (maxSteps:=9^9) only[go_sem]
  rw [cmpI,if_pos h]
 ·try simp (maxSteps:=9^9) only[go_sem]
  refine CondW_dec (fun h2=>?_) (fun h2=>?_)
  ·try simp (maxSteps:=9^9) only[go_sem]
   rw [cmpI,if_neg h,if_pos h2]
  ·try simp (maxSteps:=9^9) only[go_sem]
   rw [cmpI,if_neg h,if_neg h2]
theorem natCmp_fn (a b:List Int):Fn Tryz.prog 283 [⟨tInts,a⟩,⟨tInts,b⟩] false [⟨.int,cmpL a b⟩]:=by
 refine fn_enter tabOK mixes Tryz.func283 rfl rfl _ Tryz.ntmps283 _ Tryz.results283 (by simp) fun hwf=>?_
 have ha:a.length<=9223372036854775807:=(hwf ⟨tInts,a⟩ (by simp)).1
 try simp (maxSteps:=9^9) only[go_sem]
 refine CondW_not (fun h=>?_) (fun h=>?_)
 ·have hc:cmpL a b=cmpI a.length b.length:=if_neg (by omega)
  try simp (maxSteps:=9^9) only[go_sem]
  repeat refine And.intro (by first|omega|(constructor<;>omega)|kernel_rfl) ?_
  refine CallW.mk (compare_fn a.length b.length) ?_
  try simp (maxSteps:=9^9) only[go_sem]
  exact hc.symm
 ·have hc:cmpL a b=cmpR a b a.length:=if_pos (by omega)
  try simp (maxSteps:=9^9) only[go_sem]
  refine ⟨by constructor<;>omega,?_⟩
  refine LoopG.intro _ _ _ (fun i:Int=>⟨[(0,.sl .int a),(1,.sl .int b),(5,.sc (.int .i64 i))],[]⟩) (fun i=>-1<=i/\i < a.length/\cmpR a b (i+1).toNat=cmpL a b) (fun i=>(i+1).toNat) (a.length - 1) ?_ ⟨by omega,by omega,by rw [hc]; congr 1; omega⟩ ?_
  ·refine Wk.mk [] ?_
   try simp (maxSteps:=9^9) only[go_sem]
   try (and_intros<;>first|rfl|omega|exact ⟨_,rfl⟩)
  ·rintro i ⟨h1,h2,h3⟩
   try simp (maxSteps:=9^9) only[go_sem]
   refine CondW_dec (fun h4=>?_) (fun h4=>?_)
   ·rw [cmpR_step h4] at h3
    try simp (maxSteps:=9^9) only[go_sem]
    refine ⟨h4,h2,h4,by omega,by kernel_rfl,?_⟩
    refine CondW_not (fun h5=>?_) (fun h5=>?_)
    ·rw [if_neg h5] at h3
     try simp (maxSteps:=9^9) only[go_sem]
     refine ⟨h4,h2,h4,by omega,?_⟩
     repeat refine And.intro (by first|omega|(constructor<;>omega)|kernel_rfl) ?_
     refine CallW.mk (compare_fn (ni a i.toNat) (ni b i.toNat)) ?_
     try simp (maxSteps:=9^9) only[go_sem]
     exact ⟨by kernel_rfl,h3⟩
    ·rw [if_pos h5] at h3
     try simp (maxSteps:=9^9) only[go_sem]
     refine ⟨by constructor<;>omega,LoopK.mk (i - 1) ?_ ⟨by omega,by omega,by rw [<-h3]; congr 1; omega⟩ (by omega)⟩
     refine Wk.mk [] ?_
     try simp (maxSteps:=9^9) only[go_sem]
     try (and_intros<;>first|rfl|omega|exact ⟨_,rfl⟩)
   ·try simp (maxSteps:=9^9) only[go_sem]
    rw [<-h3,show (i+1).toNat=0 by omega]; rfl
end Go.Proofs.YtffdhjnbppagjaaGreat.DW

namespace Go.Proofs.YtffdhjnbppagjaaGreat.DW
open Go.RowKit
def trimN (l:List Int):Nat->Nat
 | 0=>0
 | n+1=>if ni l n=0 then trimN l n else n+1
def trimL (l:List Int):List Int:=l.take (trimN l l.length)
theorem trimN_step {l:List Int} {i:Int} (h:0 < i):trimN l i.toNat=if ni l (i - 1).toNat=0 then trimN l (i - 1).toNat else i.toNat:=by
 rw [show i.toNat=(i - 1).toNat+1 by omega]; rfl
theorem trimmed_fn (l:List Int):Fn Tryz.prog 291 [⟨tInts,l⟩] false [⟨tInts,trimL l⟩]:=by
 refine fn_enter tabOK mixes Tryz.func291 rfl rfl _ Tryz.ntmps291 _ Tryz.results291 (by simp) fun hwf=>?_
 have hl:l.length<=9223372036854775807:=(hwf ⟨tInts,l⟩ (by simp)).1
 try simp (maxSteps:=9^9) only[go_sem]
 refine LoopG.intro _ _ _ (fun i:Int=>⟨[(0,.sl .int l),(3,.sc (.int .i64 i))],[]⟩) (fun i=>0<=i/\i<=l.length/\trimN l i.toNat=trimN l l.length) (fun i=>i.toNat) l.length ?_ ⟨by omega,by omega,by congr 1⟩ ?_
 ·refine Wk.mk [] ?_
  try simp (maxSteps:=9^9) only[go_sem]
  try (and_intros<;>first|rfl|omega|exact ⟨_,rfl⟩)
 ·rintro i ⟨h1,h2,h3⟩
  try simp (maxSteps:=9^9) only[go_sem]
  refine GuardW_dec (fun h4=>?_) (fun h4=>?_)
  ·rw [trimN_step h4] at h3
   try simp (maxSteps:=9^9) only[go_sem]
   refine ⟨by constructor<;>omega,by omega,by omega,?_⟩
   refine CondW_dec (fun h5=>?_) (fun h5=>?_)
   ·rw [if_pos h5] at h3
    try simp (maxSteps:=9^9) only[go_sem]
    refine ⟨by constructor<;>omega,LoopK.mk (i - 1) ?_ ⟨by omega,by omega,h3⟩ (by omega)⟩
    refine Wk.mk [] ?_
    try simp (maxSteps:=9^9) only[go_sem]
    try (and_intros<;>first|rfl|omega|exact ⟨_,rfl⟩)
   ·rw [if_neg h5] at h3
    try simp (maxSteps:=9^9) only[go_sem]
    refine ⟨h1,h2,?_⟩
    rw [h3]; rfl
  ·try simp (maxSteps:=9^9) only[go_sem]
   refine ⟨h1,h2,?_⟩
   rw [trimL,<-h3,show i.toNat=0 by omega]; rfl
theorem l02Trim_fn (l:List Int):Fn Tryz.prog 311 [⟨tInts,l⟩] false [⟨tInts,trimL l⟩]:=by
 refine fn_enter tabOK mixes Tryz.func311 rfl rfl _ Tryz.ntmps311 _ Tryz.results311 (by simp) fun hwf=>?_
 have hl:l.length<=9223372036854775807:=(hwf ⟨tInts,l⟩ (by simp)).1
 try simp (maxSteps:=9^9) only[go_sem]
 refine LoopG.intro _ _ _ (fun i:Int=>⟨[(0,.sl .int l),(3,.sc (.int .i64 i))],[]⟩) (fun i=>0<=i/\i<=l.length/\trimN l i.toNat=trimN l l.length) (fun i=>i.toNat) l.length ?_ ⟨by omega,by omega,by congr 1⟩ ?_
 ·refine Wk.mk [] ?_
  try simp (maxSteps:=9^9) only[go_sem]
  try (and_intros<;>first|rfl|omega|exact ⟨_,rfl⟩)
 ·rintro i ⟨h1,h2,h3⟩
  try simp (maxSteps:=9^9) only[go_sem]
  refine GuardW_dec (fun h4=>?_) (fun h4=>?_)
  ·rw [trimN_step h4] at h3
   try simp (maxSteps:=9^9) only[go_sem]
   refine ⟨by constructor<;>omega,by omega,by omega,?_⟩
   refine CondW_dec (fun h5=>?_) (fun h5=>?_)
   ·rw [if_pos h5] at h3
    try simp (maxSteps:=9^9) only[go_sem]
    refine ⟨by constructor<;>omega,LoopK.mk (i - 1) ?_ ⟨by omega,by omega,h3⟩ (by omega)⟩
    refine Wk.mk [] ?_
    try simp (maxSteps:=9^9) only[go_sem]
    try (and_intros<;>first|rfl|omega|exact ⟨_,rfl⟩)
   ·rw [if_neg h5] at h3
    try simp (maxSteps:=9^9) only[go_sem]
    refine ⟨h1,h2,?_⟩
    rw [h3]; rfl
  ·try simp (maxSteps:=9^9) only[go_sem]
   refine ⟨h1,h2,?_⟩
   rw [trimL,<-h3,show i.toNat=0 by omega]; rfl
def natL (n:Nat):List Int:=if h:n=0 then [] else ((n % 1000000000:Nat):Int) :: natL (n / 1000000000)
decreasing_by omega
theorem natL_zero:natL 0=[]:=by rw [natL]; rfl
theorem natL_pos {n:Nat} (h:0 < n):natL n=((n % 1000000000:Nat):Int) :: natL (n / 1000000000):=by rw [natL,dif_neg (by omega)]
theorem natL_len (k n:Nat) (h:n < 1000000000 ^ k):(natL n).length<=k:=by
 induction k generalizing n with
 | zero=>rw [show n=0 by simpa using h,natL_zero]; simp
 | succ k ih =>
  by_cases h0:n=0
  ·subst h0; rw [natL_zero]; simp
  ·rw [natL_pos (by omega)]
   have:=ih (n / 1000000000) (by rw [Nat.div_lt_iff_lt_mul (by omega)]; rwa [Nat.pow_succ] at h)
   simp; omega
theorem natL_len3 {n:Int} (h:n<=9223372036854775808):(natL n.toNat).length<=3:=natL_len 3 _ (by omega)
theorem natL_step {n:Int} (h:0 < n):natL n.toNat=n % 1000000000 :: natL (n / 1000000000).toNat:=by
 rw [natL_pos (by omega),show n.toNat / 1000000000=(n / 1000000000).toNat by omega,show ((n.toNat % 1000000000:Nat):Int)=n % 1000000000 by omega]
theorem specNatOf_fn (n:Int):Fn Tryz.prog 226 [⟨.int,n⟩] true [⟨tInts,natL n.toNat⟩]:=by
 refine fn_enter tabOK mixes Tryz.func226 rfl rfl _ Tryz.ntmps226 _ Tryz.results226 (by simp) fun hwf=>?_
 have hn:I64 n:=hwf ⟨.int,n⟩ (by simp)
 have hl:=natL_len3 (n:=n) (by have:=hn.2; omega)
 try simp (maxSteps:=9^9) only[go_sem]
 refine LoopG.intro _ _ _ (fun x:Int × List Int=>⟨[(0,.sc (.int .i64 x.1)),(3,.row 0 0)],[(0,.row 3 .int 0 true x.2)]⟩) (fun x=>natL n.toNat=x.2++natL x.1.toNat) (fun x=>x.1.toNat) (n,[]) ?_ rfl ?_
 ·refine Wk.mk [] ?_
  try simp (maxSteps:=9^9) only[go_sem]
  try (and_intros<;>first|rfl|omega|exact ⟨_,rfl⟩)
 ·rintro ⟨k,dn⟩ h1
  have hdl:=congrArg List.length h1
  rw [List.length_append] at hdl
  simp only at h1 hdl
  try simp (maxSteps:=9^9) only[go_sem]
  refine CondW_dec (fun h2=>?_) (fun h2=>?_)
  ·rw [natL_step h2] at h1
   try simp (maxSteps:=9^9) only[go_sem]
   refine RemW.pos (by omega) (by decide) ?_
   try simp (maxSteps:=9^9) only[go_sem]
   refine ⟨by omega,by omega,QuoW.pos (by omega) (by decide) ?_⟩
   try simp (maxSteps:=9^9) only[go_sem]
   refine LoopK.mk (k / 1000000000,dn++[k % 1000000000]) ?_ (by simp [h1]) (by simp only; omega)
   refine Wk.mk [] ?_
   try simp (maxSteps:=9^9) only[go_sem]
   try (and_intros<;>first|rfl|omega|exact ⟨_,rfl⟩)
  ·have h3:natL k.toNat=[]:=by rw [show k.toNat=0 by omega,natL_zero]
   rw [h3,List.append_nil] at h1
   try simp (maxSteps:=9^9) only[go_sem]
   exact h1.symm
theorem implNatOf_fn (n:Int):Fn Tryz.prog 251 [⟨.int,n⟩] true [⟨tInts,natL n.toNat⟩]:=by
 refine fn_enter tabOK mixes Tryz.func251 rfl rfl _ Tryz.ntmps251 _ Tryz.results251 (by simp) fun hwf=>?_
 have hn:I64 n:=hwf ⟨.int,n⟩ (by simp)
 have hl:=natL_len3 (n:=n) (by have:=hn.2; omega)
 try simp (maxSteps:=9^9) only[go_sem]
 refine LoopG.intro _ _ _ (fun x:Int × List Int=>⟨[(0,.sc (.int .i64 x.1)),(3,.row 0 0)],[(0,.row 3 .int 0 true x.2)]⟩) (fun x=>natL n.toNat=x.2++natL x.1.toNat) (fun x=>x.1.toNat) (n,[]) ?_ rfl ?_
 ·refine Wk.mk [] ?_
  try simp (maxSteps:=9^9) only[go_sem]
  try (and_intros<;>first|rfl|omega|exact ⟨_,rfl⟩)
 ·rintro ⟨k,dn⟩ h1
  have hdl:=congrArg List.length h1
  rw [List.length_append] at hdl
  simp only at h1 hdl
  try simp (maxSteps:=9^9) only[go_sem]
  refine CondW_dec (fun h2=>?_) (fun h2=>?_)
  ·rw [natL_step h2] at h1
   try simp (maxSteps:=9^9) only[go_sem]
   refine RemW.pos (by omega) (by decide) ?_
   try simp (maxSteps:=9^9) only[go_sem]
   refine ⟨by omega,by omega,QuoW.pos (by omega) (by decide) ?_⟩
   try simp (maxSteps:=9^9) only[go_sem]
   refine LoopK.mk (k / 1000000000,dn++[k % 1000000000]) ?_ (by simp [h1]) (by simp only; omega)
   refine Wk.mk [] ?_
   try simp (maxSteps:=9^9) only[go_sem]
   try (and_intros<;>first|rfl|omega|exact ⟨_,rfl⟩)
  ·have h3:natL k.toNat=[]:=by rw [show k.toNat=0 by omega,natL_zero]
   rw [h3,List.append_nil] at h1
   try simp (maxSteps:=9^9) only[go_sem]
   exact h1.symm
def ixf {t:Ty} (p:t.den->Bool) (l:List t.den):Int:=match l.findIdx? p with|some i=>i|none=>-1
theorem ixf_at {t:Ty} {p:t.den->Bool} {l:List t.den} {i:Nat} (hi:i < l.length) (h:p (nth l i)=true) (hb:∀ j < i,p (nth l j)=false):ixf p l=i:=by
 have:l.findIdx? p=some i:=by
  rw [List.findIdx?_eq_some_iff_getElem]
  refine ⟨hi,by rw [<-nth_lt hi]; exact h,fun j hj=>?_⟩
  rw [<-nth_lt (by omega)]; simp [hb j hj]
 rw [ixf,this]
theorem ixf_none {t:Ty} {p:t.den->Bool} {l:List t.den} (hb:∀ j < l.length,p (nth l j)=false):ixf p l=-1:=by
 have:l.findIdx? p=none:=by
  rw [List.findIdx?_eq_none_iff]
  intro x hx
  obtain ⟨j,hj,rfl⟩:=List.getElem_of_mem hx
  rw [<-nth_lt hj]; exact hb j hj
 rw [ixf,this]
theorem ixf_any {t:Ty} {p:t.den->Bool} {l:List t.den}:decide (0<=ixf p l)=l.any p:=by
 unfold ixf
 cases h:l.findIdx? p with
 | none =>
  rw [List.findIdx?_eq_none_iff] at h
  have:l.any p=false:=by rw [List.any_eq_false]; intro x hx; simp [h x hx]
  rw [this]; rfl
 | some i =>
  rw [List.findIdx?_eq_some_iff_getElem] at h
  obtain ⟨hi,hp,_⟩:=h
  have:l.any p=true:=List.any_eq_true.2 ⟨_,List.getElem_mem hi,hp⟩
  rw [this]; simp
theorem indexFunc_int_fn (F:FuncId) (p:Int->Bool) (hF:∀ x:Int,Fn Tryz.prog F [⟨.int,x⟩] false [⟨.bool,p x⟩]) (l:List Int):Fn Tryz.prog 290 [⟨.slice (.int),l⟩,⟨.cst (.fn F),()⟩] false [⟨.int,ixf (t:=.int) p l⟩]:=by
 refine fn_enter tabOK mixes Tryz.func290 rfl rfl _ Tryz.ntmps290 _ Tryz.results290 (by simp) fun hwf=>?_
 have hl:l.length<=9223372036854775807:=(hwf ⟨.slice (.int),l⟩ (by simp)).1
 try simp (maxSteps:=9^9) only[go_sem]
 refine LoopG.intro _ _ _ (fun i:Int=>⟨[(0,.sl (.int) l),(1,.sc (.func (.func F) #[] #[])),(7,.sc (.int .i64 l.length)),(8,.sc (.int .i64 i))],[]⟩) (fun i=>0<=i/\∀ j < i.toNat,j < l.length->p (nth (t:=.int) l j)=false) (fun i=>(l.length - i).toNat) 0 ?_ ⟨by omega,fun j h=>by simp at h⟩ ?_
 ·refine Wk.mk [] ?_
  try simp (maxSteps:=9^9) only[go_sem]
  try (and_intros<;>first|rfl|omega|exact ⟨_,rfl⟩)
 ·rintro i ⟨h1,h2⟩
  try simp (maxSteps:=9^9) only[go_sem]
  refine CondW_dec (fun h3=>?_) (fun h3=>?_)
  ·try simp (maxSteps:=9^9) only[go_sem]
   refine ⟨h1,h3,?_⟩
   repeat refine And.intro (by first|omega|(constructor<;>omega)|kernel_rfl) ?_
   refine CallW.mk (hF (ni l i.toNat)) ?_
   try simp (maxSteps:=9^9) only[go_sem]
   refine CondW_b (fun h4=>?_) (fun h4=>?_)
   ·try simp (maxSteps:=9^9) only[go_sem]
    exact (ixf_at (by omega) h4 (fun j hj=>h2 j hj (by omega))).symm ▸ (by omega)
   ·try simp (maxSteps:=9^9) only[go_sem]
    refine ⟨by constructor<;>omega,LoopK.mk (i+1) ?_ ⟨by omega,fun j hj hl=>?_⟩ (by omega)⟩
    ·refine Wk.mk [] ?_
     try simp (maxSteps:=9^9) only[go_sem]
     try (and_intros<;>first|rfl|omega|exact ⟨_,rfl⟩)
    ·by_cases hj2:j < i.toNat
     ·exact h2 j hj2 hl
     ·rw [show j=i.toNat by omega]; exact h4
  ·try simp (maxSteps:=9^9) only[go_sem]
   exact (ixf_none fun j hj=>h2 j (by omega) hj).symm
theorem containsFunc_int_fn (F:FuncId) (p:Int->Bool) (hF:∀ x:Int,Fn Tryz.prog F [⟨.int,x⟩] false [⟨.bool,p x⟩]) (l:List Int):Fn Tryz.prog 216 [⟨.slice (.int),l⟩,⟨.cst (.fn F),()⟩] false [⟨.bool,l.any p⟩]:=by
 refine fn_enter tabOK mixes Tryz.func216 rfl rfl _ Tryz.ntmps216 _ Tryz.results216 (by simp) fun hwf=>?_
 try simp (maxSteps:=9^9) only[go_sem]
 repeat refine And.intro (by first|omega|(constructor<;>omega)|kernel_rfl) ?_
 refine CallW.mk (indexFunc_int_fn F p hF l) ?_
 try simp (maxSteps:=9^9) only[go_sem]
 exact ixf_any
theorem l01In_fn (n a b:Int):Fn Tryz.prog 229 [⟨.int,n⟩,⟨.int,a⟩,⟨.int,b⟩] false [⟨.bool,decide (a<=n/\n<=b)⟩]:=by
 refine fn_enter tabOK mixes Tryz.func229 rfl rfl _ Tryz.ntmps229 _ Tryz.results229 (by simp) fun hwf=>?_
 try simp (maxSteps:=9^9) only[go_sem]
 refine GuardW_dec (fun h=>?_) (fun h=>?_)
 ·try simp (maxSteps:=9^9) only[go_sem]
  simp [h]
 ·try simp (maxSteps:=9^9) only[go_sem]
  simp [h]
theorem within_fn (n a b:Int):Fn Tryz.prog 186 [⟨.int,n⟩,⟨.int,a⟩,⟨.int,b⟩] false [⟨.bool,decide (a<=n/\n<=b)⟩]:=by
 refine fn_enter tabOK mixes Tryz.func186 rfl rfl _ Tryz.ntmps186 _ Tryz.results186 (by simp) fun hwf=>?_
 try simp (maxSteps:=9^9) only[go_sem]
 refine GuardW_dec (fun h=>?_) (fun h=>?_)
 ·try simp (maxSteps:=9^9) only[go_sem]
  simp [h]
 ·try simp (maxSteps:=9^9) only[go_sem]
  simp [h]
noncomputable def bdec (p:Prop):Bool:=@decide p (Classical.propDecidable p)
theorem bdec_t {p:Prop} (h:p):bdec p=true:=@decide_eq_true _ (Classical.propDecidable p) h
theorem bdec_f {p:Prop} (h:¬ p):bdec p=false:=@decide_eq_false _ (Classical.propDecidable p) h
def isLb (d:Int):Prop:=0<=d/\d<=999999999
def okNP (l:List Int):Prop:=(∀ d ∈ l,isLb d)/\l.length<=60/\(l.length=0\/ni l (l.length - 1) ≠ 0)
noncomputable def okN (l:List Int):Bool:=bdec (okNP l)
theorem specNatOk_fn (l:List Int):Fn Tryz.prog 232 [⟨tInts,l⟩] false [⟨.bool,okN l⟩]:=by
 refine fn_enter tabOK mixes Tryz.func232 rfl rfl _ Tryz.ntmps232 _ Tryz.results232 (by simp) fun hwf=>?_
 have hl:l.length<=9223372036854775807:=(hwf ⟨tInts,l⟩ (by simp)).1
 try simp (maxSteps:=9^9) only[go_sem]
 refine LoopG.intro _ _ _ (fun i:Int=>⟨[(0,.sl .int l),(5,.sl .int l),(6,.sc (.int .i64 l.length)),(7,.sc (.int .i64 i))],[]⟩) (fun i=>0<=i/\∀ j < i.toNat,j < l.length->isLb (ni l j)) (fun i=>(l.length - i).toNat) 0 ?_ ⟨by omega,fun j h=>by simp at h⟩ ?_
 ·refine Wk.mk [] ?_
  try simp (maxSteps:=9^9) only[go_sem]
  try (and_intros<;>first|rfl|omega|exact ⟨_,rfl⟩)
 ·rintro i ⟨h1,h2⟩
  try simp (maxSteps:=9^9) only[go_sem]
  refine CondW_dec (fun h3=>?_) (fun h3=>?_)
  ·try simp (maxSteps:=9^9) only[go_sem]
   refine ⟨h1,h3,?_⟩
   repeat refine And.intro (by first|omega|(constructor<;>omega)|kernel_rfl) ?_
   refine CallW.mk (l01In_fn (ni l i.toNat) 0 999999999) ?_
   try simp (maxSteps:=9^9) only[go_sem]
   refine CondW_not (fun h4=>?_) (fun h4=>?_)
   ·try simp (maxSteps:=9^9) only[go_sem]
    refine (bdec_f fun hok=>h4 ?_).symm
    rw [ni_lt (by omega)]
    exact hok.1 _ (List.getElem_mem (by omega))
   ·try simp (maxSteps:=9^9) only[go_sem]
    refine ⟨by constructor<;>omega,LoopK.mk (i+1) ?_ ⟨by omega,fun j hj hl=>?_⟩ (by omega)⟩
    ·refine Wk.mk [] ?_
     try simp (maxSteps:=9^9) only[go_sem]
     try (and_intros<;>first|rfl|omega|exact ⟨_,rfl⟩)
    ·by_cases hj2:j < i.toNat
     ·exact h2 j hj2 hl
     ·rw [show j=i.toNat by omega]; exact h4
  ·have hall:∀ d ∈ l,isLb d:=fun d hd=>by
    obtain ⟨j,hj,rfl⟩:=List.getElem_of_mem hd
    rw [<-ni_lt hj]; exact h2 j (by omega) hj
   try simp (maxSteps:=9^9) only[go_sem]
   refine GuardW_dec (fun h4=>?_) (fun h4=>?_)
   ·try simp (maxSteps:=9^9) only[go_sem]
    refine GuardW_decf (fun h5=>?_) (fun h5=>?_)
    ·try simp (maxSteps:=9^9) only[go_sem]
     refine ⟨by constructor<;>omega,by omega,by omega,?_⟩
     by_cases h6:ni l (l.length - 1)=0
     ·refine (Eq.trans ?_ (bdec_f fun hok=>(hok.2.2.elim (by omega) fun h=>h h6)).symm)
      rw [show ((l.length:Int) - 1).toNat=l.length - 1 by omega]; simp [h6]
     ·refine (Eq.trans ?_ (bdec_t ⟨hall,by omega,.inr h6⟩).symm)
      rw [show ((l.length:Int) - 1).toNat=l.length - 1 by omega]; simp [h6]
    ·try simp (maxSteps:=9^9) only[go_sem]
     exact (bdec_t ⟨hall,by omega,.inl (by omega)⟩).symm
   ·try simp (maxSteps:=9^9) only[go_sem]
    refine (bdec_f fun hok=>?_).symm
    have:=hok.2.1; omega
theorem natOkC_fn (x:Int):Fn Tryz.prog 217 [⟨.int,x⟩] false [⟨.bool,!decide (0<=x/\x<=999999999)⟩]:=by
 refine fn_enter tabOK mixes Tryz.func217 rfl rfl _ Tryz.ntmps217 _ Tryz.results217 (by simp) fun hwf=>?_
 try simp (maxSteps:=9^9) only[go_sem]
 repeat refine And.intro (by first|omega|(constructor<;>omega)|kernel_rfl) ?_
 refine CallW.mk (within_fn x 0 999999999) ?_
 try simp (maxSteps:=9^9) only[go_sem]
theorem implNatOk_fn (l:List Int):Fn Tryz.prog 138 [⟨tInts,l⟩] false [⟨.bool,okN l⟩]:=by
 refine fn_enter tabOK mixes Tryz.func138 rfl rfl _ Tryz.ntmps138 _ Tryz.results138 (by simp) fun hwf=>?_
 have hl:l.length<=9223372036854775807:=(hwf ⟨tInts,l⟩ (by simp)).1
 have hany:l.any (fun x=>!decide (0<=x/\x<=999999999))=false->∀ d ∈ l,isLb d:=fun h d hd=>by
  rw [List.any_eq_false] at h
  have:=h d hd
  show 0<=d/\d<=999999999
  simpa using this
 have hany2:l.any (fun x=>!decide (0<=x/\x<=999999999))=true->¬ ∀ d ∈ l,isLb d:=fun h hall=>by
  obtain ⟨d,hd,h⟩:=List.any_eq_true.1 h
  have:=hall d hd
  simp [this.1,this.2] at h
 try simp (maxSteps:=9^9) only[go_sem]
 refine GuardW_decf (fun h=>?_) (fun h=>?_)
 ·try simp (maxSteps:=9^9) only[go_sem]
  repeat refine And.intro (by first|omega|(constructor<;>omega)|kernel_rfl) ?_
  refine CallW.mk (containsFunc_int_fn _ _ natOkC_fn l) ?_
  try simp (maxSteps:=9^9) only[go_sem]
  refine CondW_b (fun h2=>?_) (fun h2=>?_)
  ·try simp (maxSteps:=9^9) only[go_sem]
   exact (bdec_f fun hok=>hany2 h2 hok.1).symm
  ·have hall:=hany h2
   try simp (maxSteps:=9^9) only[go_sem]
   refine GuardW_decf (fun h5=>?_) (fun h5=>?_)
   ·try simp (maxSteps:=9^9) only[go_sem]
    refine ⟨by constructor<;>omega,by omega,by omega,?_⟩
    by_cases h6:ni l (l.length - 1)=0
    ·refine (Eq.trans ?_ (bdec_f fun hok=>(hok.2.2.elim (by omega) fun h=>h h6)).symm)
     rw [show ((l.length:Int) - 1).toNat=l.length - 1 by omega]; simp [h6]
    ·refine (Eq.trans ?_ (bdec_t ⟨hall,by omega,.inr h6⟩).symm)
     rw [show ((l.length:Int) - 1).toNat=l.length - 1 by omega]; simp [h6]
   ·try simp (maxSteps:=9^9) only[go_sem]
    exact (bdec_t ⟨hall,by omega,.inl (by omega)⟩).symm
 ·try simp (maxSteps:=9^9) only[go_sem]
  refine (bdec_f fun hok=>?_).symm
  have:=hok.2.1; omega
end Go.Proofs.YtffdhjnbppagjaaGreat.DW

namespace Go.Proofs.YtffdhjnbppagjaaGreat.DW
open Go.RowKit
def pw (k:Nat):Nat:=1000000000 ^ k
theorem pw_zero:pw 0=1:=rfl
theorem pw_one:pw 1=1000000000:=rfl
theorem pw_succ (k:Nat):pw (k+1)=1000000000 * pw k:=by rw [pw,Nat.pow_succ,Nat.mul_comm]; rfl
theorem pw_pos (k:Nat):0 < pw k:=Nat.pow_pos (by decide)
theorem pw_add (j k:Nat):pw (j+k)=pw j * pw k:=Nat.pow_add ..
theorem pw_le {j k:Nat} (h:j<=k):pw j<=pw k:=Nat.pow_le_pow_right (by decide) h
theorem pw_lt {j k:Nat} (h:j < k):pw j < pw k:=Nat.pow_lt_pow_right (by decide) h
theorem pw_lt_iff {j k:Nat}:pw j < pw k ↔ j < k:=⟨fun h=>by
 rcases Nat.lt_or_ge j k with h1|h1
 ·exact h1
 ·have:=pw_le h1; omega,pw_lt⟩
def dg (n i:Nat):Nat:=n / pw i % 1000000000
theorem dg_lt (n i:Nat):dg n i < 1000000000:=Nat.mod_lt _ (by decide)
theorem dg_zero (n:Nat):dg n 0=n % 1000000000:=by rw [dg,pw_zero,Nat.div_one]
theorem dg_succ (n i:Nat):dg n (i+1)=dg (n / 1000000000) i:=by rw [dg,dg,pw_succ,Nat.div_div_eq_div_mul]
theorem dg_of_lt {n i:Nat} (h:n < pw i):dg n i=0:=by rw [dg,Nat.div_eq_of_lt h]
theorem mod_pw_succ (n i:Nat):n % pw (i+1)=n % pw i+pw i * dg n i:=by
 rw [pw_succ,Nat.mul_comm,Nat.mod_mul]; rfl
theorem div_pw_succ (n i:Nat):n / pw i=1000000000 * (n / pw (i+1))+dg n i:=by
 rw [pw_succ,Nat.mul_comm 1000000000 (pw i),<-Nat.div_div_eq_div_mul]
 have:=Nat.div_add_mod (n / pw i) 1000000000
 unfold dg; omega
theorem dg_top {n i:Nat} (h:n < pw (i+1)):dg n i=n / pw i:=by
 have:=div_pw_succ n i
 rw [Nat.div_eq_of_lt h] at this
 omega
def nl (n:Nat):Nat:=(natL n).length
theorem nl_zero:nl 0=0:=by rw [nl,natL_zero]; rfl
theorem nl_pos {n:Nat} (h:0 < n):nl n=nl (n / 1000000000)+1:=by rw [nl,natL_pos h]; rfl
theorem lt_nl:∀ n:Nat,n < pw (nl n):=by
 intro n
 induction n using Nat.strongRecOn with
 | _ n ih =>
  by_cases h:n=0
  ·subst h; rw [nl_zero]; decide
  ·rw [nl_pos (by omega),pw_succ]
   have:=ih (n / 1000000000) (by omega)
   omega
theorem nl_le:∀ n:Nat,n ≠ 0->0 < nl n/\pw (nl n - 1)<=n:=by
 intro n
 induction n using Nat.strongRecOn with
 | _ n ih =>
  intro h
  rw [nl_pos (by omega),Nat.add_sub_cancel]
  refine ⟨by omega,?_⟩
  by_cases h1:n / 1000000000=0
  ·rw [h1,nl_zero,pw_zero]; omega
  ·obtain ⟨h2,h3⟩:=ih (n / 1000000000) (by omega) h1
   rw [show nl (n / 1000000000)=nl (n / 1000000000) - 1+1 by omega,pw_succ]
   omega
theorem nl_iff {n k:Nat}:nl n<=k ↔ n < pw k:=by
 constructor
 ·intro h; exact Nat.lt_of_lt_of_le (lt_nl n) (pw_le h)
 ·intro h
  by_cases h0:n=0
  ·subst h0; rw [nl_zero]; omega
  ·obtain ⟨h1,h2⟩:=nl_le n h0
   have:=pw_lt_iff.1 (Nat.lt_of_le_of_lt h2 h)
   omega
theorem lt_nl_iff {n k:Nat}:k < nl n ↔ pw k<=n:=by
 have:=nl_iff (n:=n) (k:=k); omega
theorem nl_mono {m n:Nat} (h:m<=n):nl m<=nl n:=nl_iff.2 (Nat.lt_of_le_of_lt h (lt_nl n))
theorem nl_eq_zero {n:Nat}:nl n=0 ↔ n=0:=by
 constructor
 ·intro h; by_cases h0:n=0
  ·exact h0
  ·have:=(nl_le n h0).1; omega
 ·rintro rfl; exact nl_zero
theorem nl_mul (a b:Nat):nl (a * b)<=nl a+nl b:=by
 rw [nl_iff,pw_add]
 by_cases h:b=0
 ·subst h; rw [Nat.mul_zero]; exact Nat.mul_pos (pw_pos _) (pw_pos _)
 ·exact Nat.mul_lt_mul_of_lt_of_le (lt_nl a) (Nat.le_of_lt (lt_nl b)) (pw_pos _)
theorem nl_add (a b:Nat):nl (a+b)<=max (nl a) (nl b)+1:=by
 rw [nl_iff,pw_succ]
 have h1:=Nat.lt_of_lt_of_le (lt_nl a) (pw_le (Nat.le_max_left (nl a) (nl b)))
 have h2:=Nat.lt_of_lt_of_le (lt_nl b) (pw_le (Nat.le_max_right (nl a) (nl b)))
 omega
theorem natL_len_nl (n:Nat):(natL n).length=nl n:=rfl
theorem ni_cons_zero (d:Int) (l:List Int):ni (d :: l) 0=d:=rfl
theorem ni_cons_succ (d:Int) (l:List Int) (i:Nat):ni (d :: l) (i+1)=ni l i:=rfl
theorem ni_nil (i:Nat):ni [] i=0:=rfl
theorem ni_natL:∀ (i n:Nat),ni (natL n) i=(dg n i:Nat):=by
 intro i
 induction i with
 | zero =>
  intro n
  by_cases h:n=0
  ·subst h; rw [natL_zero]; rfl
  ·rw [natL_pos (by omega),ni_cons_zero,dg_zero]
 | succ i ih =>
  intro n
  by_cases h:n=0
  ·subst h; rw [natL_zero,ni_nil,dg_of_lt (pw_pos _)]; rfl
  ·rw [natL_pos (by omega),ni_cons_succ,ih,dg_succ]
theorem list_ext_ni {l m:List Int} (hl:l.length=m.length) (h:∀ i < l.length,ni l i=ni m i):l=m:=by
 apply List.ext_getElem hl
 intro i h1 h2
 rw [<-ni_lt h1,<-ni_lt h2]; exact h i h1
def dig (n k:Nat):List Int:=(List.range k).map fun i=>((dg n i:Nat):Int)
theorem dig_len (n k:Nat):(dig n k).length=k:=by simp [dig]
theorem dig_succ (n k:Nat):dig n (k+1)=dig n k++[((dg n k:Nat):Int)]:=by simp [dig,List.range_succ]
theorem ni_dig {n k i:Nat} (h:i < k):ni (dig n k) i=(dg n i:Nat):=by
 rw [ni_lt (by rw [dig_len]; exact h)]; simp [dig]
theorem natL_dig (n:Nat):natL n=dig n (nl n):=by
 refine list_ext_ni (by rw [dig_len]; rfl) fun i hi=>?_
 rw [ni_natL,ni_dig (show i < nl n from hi)]
theorem dig_eq {n k:Nat} (h:n < pw k) (h2:k=0\/pw (k - 1)<=n):dig n k=natL n:=by
 have:nl n=k:=by
  have h1:=nl_iff.2 h
  rcases h2 with h2|h2
  ·omega
  ·have:=lt_nl_iff.2 h2; omega
 rw [natL_dig,this]
theorem trimN_eq {l:List Int} {m:Nat}:∀ n:Nat,m<=n->(∀ i,m<=i->i < n->ni l i=0)->(m=0\/ni l (m - 1) ≠ 0)->trimN l n=m:=by
 intro n
 induction n with
 | zero =>
  intro h _ _
  have:m=0:=by omega
  subst this; rfl
 | succ n ih =>
  intro h h1 h2
  rcases Nat.lt_or_ge n m with h3|h3
  ·have:m=n+1:=by omega
   subst this
   rw [trimN,if_neg]
   rcases h2 with h2|h2
   ·omega
   ·exact h2
  ·rw [trimN,if_pos (h1 n h3 (by omega))]
   exact ih h3 (fun i a b=>h1 i a (by omega)) h2
theorem trimL_dig {n k:Nat} (h:n < pw k):trimL (dig n k)=natL n:=by
 have hk:=nl_iff.2 h
 have ht:trimN (dig n k) k=nl n:=by
  refine trimN_eq k hk (fun i h1 h2=>?_) ?_
  ·rw [ni_dig h2,dg_of_lt (Nat.lt_of_lt_of_le (lt_nl n) (pw_le h1))]; rfl
  ·by_cases h0:n=0
   ·exact .inl (nl_eq_zero.2 h0)
   ·obtain ⟨h1,h2⟩:=nl_le n h0
    refine .inr ?_
    rw [ni_dig (by omega),dg_top (by rw [show nl n - 1+1=nl n by omega]; exact lt_nl n)]
    have:=Nat.div_pos h2 (pw_pos _)
    omega
 rw [trimL,dig_len,ht]
 refine list_ext_ni (by rw [List.length_take,dig_len,natL_len_nl]; omega) fun i hi=>?_
 have hi2:i < nl n:=by rw [List.length_take,dig_len] at hi; omega
 rw [ni_natL,ni_lt hi,List.getElem_take,<-ni_lt (by rw [dig_len]; omega),ni_dig (by omega)]
theorem trimL_natL (n:Nat):trimL (natL n)=natL n:=by
 have:=trimL_dig (lt_nl n); rw [<-natL_dig] at this; exact this
def val:List Int->Nat
 | []=>0
 | d :: l=>d.toNat+1000000000 * val l
def lims (l:List Int):Prop:=∀ d ∈ l,isLb d
theorem lims_natL (n:Nat):lims (natL n):=by
 rw [natL_dig]; intro d hd
 simp only [dig,List.mem_map] at hd
 obtain ⟨i,_,rfl⟩:=hd
 have:=dg_lt n i
 constructor<;>omega
theorem lims_ni {l:List Int} (h:lims l) (i:Nat):0<=ni l i/\ni l i<=999999999:=by
 by_cases hi:i < l.length
 ·rw [ni_lt hi]; exact h _ (List.getElem_mem hi)
 ·rw [ni_ge (by omega)]; omega
theorem lims_set {l:List Int} (h:lims l) (i:Nat) {d:Int} (h1:0<=d) (h2:d<=999999999):lims (l.set i d):=by
 intro x hx
 rcases List.mem_or_eq_of_mem_set hx with hx|rfl
 ·exact h x hx
 ·exact ⟨h1,h2⟩
theorem lims_app {l m:List Int} (h:lims l) (h':lims m):lims (l++m):=fun d hd=>(List.mem_append.1 hd).elim (h d) (h' d)
theorem lims_one {d:Int} (h1:0<=d) (h2:d<=999999999):lims [d]:=fun x hx=>by rw [List.mem_singleton.1 hx]; exact ⟨h1,h2⟩
theorem lims_rep (n:Nat):lims (List.replicate n 0):=fun d hd=>by rw [(List.mem_replicate.1 hd).2]; constructor<;>decide
theorem val_rep (n:Nat):val (List.replicate n 0)=0:=by
 induction n with
 | zero=>rfl
 | succ n ih=>rw [List.replicate_succ,val,ih]; rfl
theorem val_lt {l:List Int} (h:lims l):val l < pw l.length:=by
 induction l with
 | nil=>decide
 | cons d l ih =>
  have h1:=h d List.mem_cons_self
  have h2:=ih fun x hx=>h x (List.mem_cons_of_mem _ hx)
  rw [val,List.length_cons,pw_succ]
  have:=h1.1; have:=h1.2
  omega
theorem ni_val:∀ {l:List Int} (i:Nat),lims l->ni l i=(dg (val l) i:Nat)
 | [],i,_=>by rw [ni_nil,val,dg_of_lt (pw_pos _)]; rfl
 | d :: l,0,h=>by
  have h1:=h d List.mem_cons_self
  have:=h1.1; have:=h1.2
  rw [ni_cons_zero,dg_zero,val]; omega
 | d :: l,i+1,h=>by
  have h1:=h d List.mem_cons_self
  have:=h1.1; have:=h1.2
  rw [ni_cons_succ,dg_succ,val,show (d.toNat+1000000000 * val l) / 1000000000=val l by omega]
  exact ni_val i fun x hx=>h x (List.mem_cons_of_mem _ hx)
theorem eq_dig {l:List Int} (h:lims l):l=dig (val l) l.length :=
 list_ext_ni (by rw [dig_len]) fun i hi=>by rw [ni_dig hi,ni_val i h]
theorem trimL_val {l:List Int} (h:lims l):trimL l=natL (val l):=by
 have:=trimL_dig (val_lt h)
 rw [<-eq_dig h] at this
 exact this
theorem val_natL (n:Nat):val (natL n)=n:=by
 induction n using Nat.strongRecOn with
 | _ n ih =>
  by_cases h:n=0
  ·subst h; rw [natL_zero]; rfl
  ·rw [natL_pos (by omega),val,ih (n / 1000000000) (by omega)]; omega
theorem natL_inj {m n:Nat} (h:natL m=natL n):m=n:=by rw [<-val_natL m,h,val_natL]
theorem natL_nil {n:Nat}:natL n=[] ↔ n=0:=⟨fun h=>natL_inj (h.trans natL_zero.symm),fun h=>by rw [h,natL_zero]⟩
theorem val_app (l m:List Int):val (l++m)=val l+pw l.length * val m:=by
 induction l with
 | nil=>simp [val,pw_zero]
 | cons d l ih=>rw [List.cons_append,val,val,ih,List.length_cons,pw_succ,Nat.mul_assoc]; omega
theorem val_set:∀ {l:List Int} {i:Nat} (d:Int),i < l.length->val (l.set i d)+pw i * (ni l i).toNat=val l+pw i * d.toNat
 | [],i,_,h=>by simp at h
 | x :: l,0,d,_=>by rw [List.set_cons_zero,val,val,pw_zero,ni_cons_zero]; omega
 | x :: l,i+1,d,h=>by
  have:=val_set (l:=l) (i:=i) d (by simpa using h)
  rw [List.set_cons_succ,val,val,pw_succ,ni_cons_succ,Nat.mul_assoc,Nat.mul_assoc]
  omega
theorem val_nil:val []=0:=rfl
theorem val_one (d:Int):val [d]=d.toNat:=by rw [val,val_nil]; omega
theorem okN_nat {l:List Int} (h:okNP l):l=natL (val l):=by
 obtain ⟨h1,_,h3⟩:=h
 have hl:=val_lt h1
 rw [<-dig_eq hl,<-eq_dig h1]
 rcases h3 with h3|h3
 ·exact .inl h3
 ·by_cases h0:l.length=0
  ·exact .inl h0
  ·refine .inr ?_
   rw [ni_val _ h1,dg_top (by rw [show l.length - 1+1=l.length by omega]; exact hl)] at h3
   rcases Nat.lt_or_ge (val l) (pw (l.length - 1)) with h4|h4
   ·rw [Nat.div_eq_of_lt h4] at h3; exact absurd rfl h3
   ·exact h4
theorem okNP_natL {n:Nat}:okNP (natL n) ↔ nl n<=60:=by
 constructor
 ·intro h; exact h.2.1
 ·intro h
  refine ⟨lims_natL n,h,?_⟩
  by_cases h0:n=0
  ·exact .inl (nl_eq_zero.2 h0)
  ·obtain ⟨h1,h2⟩:=nl_le n h0
   refine .inr ?_
   rw [natL_len_nl,ni_natL,dg_top (by rw [show nl n - 1+1=nl n by omega]; exact lt_nl n)]
   have:=Nat.div_pos h2 (pw_pos _)
   omega
theorem okNP_iff {l:List Int}:okNP l ↔ ∃ n,l=natL n/\nl n<=60 :=
 ⟨fun h=>⟨val l,okN_nat h,okNP_natL.1 (by rw [<-okN_nat h]; exact h)⟩,fun ⟨n,e,h⟩=>by rw [e]; exact okNP_natL.2 h⟩
def cmpN (a b:Nat):Int:=if a < b then -1 else if b < a then 1 else 0
theorem cmpR_nat (a b:Nat):∀ k:Nat,cmpR (natL a) (natL b) k=cmpN (a % pw k) (b % pw k):=by
 intro k
 induction k with
 | zero=>rw [cmpR,pw_zero,Nat.mod_one,Nat.mod_one]; rfl
 | succ k ih =>
  rw [cmpR,ni_natL,ni_natL,mod_pw_succ,mod_pw_succ]
  have ha:=Nat.mod_lt a (pw_pos k)
  have hb:=Nat.mod_lt b (pw_pos k)
  split
  ·rename_i h
   rw [ih,show dg a k=dg b k by omega]
   unfold cmpN
   simp only [Nat.add_lt_add_iff_right]
  ·rename_i h
   unfold cmpI cmpN
   rcases Nat.lt_or_ge (dg a k) (dg b k) with h1|h1
   ·have:pw k * (dg a k+1)<=pw k * dg b k:=Nat.mul_le_mul_left _ h1
    rw [Nat.mul_add,Nat.mul_one] at this
    rw [if_pos (by omega),if_pos (by omega)]
   ·have:pw k * (dg b k+1)<=pw k * dg a k:=Nat.mul_le_mul_left _ (by omega)
    rw [Nat.mul_add,Nat.mul_one] at this
    rw [if_neg (by omega),if_pos (by omega),if_neg (by omega),if_pos (by omega)]
theorem cmpL_nat (a b:Nat):cmpL (natL a) (natL b)=cmpN a b:=by
 unfold cmpL
 rw [natL_len_nl,natL_len_nl]
 split
 ·rename_i h
  rw [cmpR_nat,Nat.mod_eq_of_lt (lt_nl a),h,Nat.mod_eq_of_lt (lt_nl b)]
 ·rename_i h
  unfold cmpI cmpN
  rcases Nat.lt_or_ge (nl a) (nl b) with h1|h1
  ·have h2:=lt_nl_iff.1 h1
   have:=lt_nl a
   rw [if_pos (by omega),if_pos (by omega)]
  ·have h1:nl b < nl a:=by omega
   have h2:=lt_nl_iff.1 h1
   have:=lt_nl b
   rw [if_neg (by omega),if_pos (by omega),if_neg (by omega),if_pos (by omega)]
end Go.Proofs.YtffdhjnbppagjaaGreat.DW

namespace Go.Proofs.YtffdhjnbppagjaaGreat.DW
open Go.RowKit
def cry (a b i:Nat):Nat:=(a % pw i+b % pw i) / pw i
theorem cry_zero (a b:Nat):cry a b 0=0:=by rw [cry,pw_zero,Nat.mod_one,Nat.mod_one]
theorem cry_le (a b i:Nat):cry a b i<=1:=by
 have h:=pw_pos i
 have h1:=Nat.mod_lt a h
 have h2:=Nat.mod_lt b h
 have:cry a b i < 2:=by rw [cry,Nat.div_lt_iff_lt_mul h]; omega
 omega
theorem cry_sum (a b i:Nat):dg a i+dg b i+cry a b i=(a % pw (i+1)+b % pw (i+1)) / pw i:=by
 rw [mod_pw_succ,mod_pw_succ,show a % pw i+pw i * dg a i+(b % pw i+pw i * dg b i)=(a % pw i+b % pw i)+pw i * (dg a i+dg b i) by rw [Nat.mul_add]; omega,Nat.add_mul_div_left _ _ (pw_pos i),cry]
 omega
theorem cry_succ (a b i:Nat):(dg a i+dg b i+cry a b i) / 1000000000=cry a b (i+1):=by
 rw [cry_sum,cry,pw_succ,Nat.div_div_eq_div_mul,Nat.mul_comm (pw i)]
theorem dg_add_mul (n k i:Nat):dg (n+pw (i+1) * k) i=dg n i:=by
 rw [dg,dg,pw_succ,show 1000000000 * pw i * k=pw i * (1000000000 * k) by simp only [Nat.mul_assoc,Nat.mul_left_comm],Nat.add_mul_div_left _ _ (pw_pos i),Nat.add_mul_mod_self_left]
theorem cry_dg (a b i:Nat):(dg a i+dg b i+cry a b i) % 1000000000=dg (a+b) i:=by
 have e:a+b=(a % pw (i+1)+b % pw (i+1))+pw (i+1) * (a / pw (i+1)+b / pw (i+1)):=by
  have h1:=Nat.mod_add_div a (pw (i+1))
  have h2:=Nat.mod_add_div b (pw (i+1))
  rw [Nat.mul_add]; omega
 rw [e,dg_add_mul,cry_sum,dg]
theorem cry_end {a b i:Nat} (h1:nl a<=i) (h2:nl b<=i) (h3:cry a b i=0):a+b < pw i:=by
 rw [cry,Nat.mod_eq_of_lt (nl_iff.1 h1),Nat.mod_eq_of_lt (nl_iff.1 h2),Nat.div_eq_zero_iff] at h3
 have:=pw_pos i
 omega
theorem cry_big {a b i:Nat} (h:i < nl a\/i < nl b\/0 < cry a b i):pw i<=a+b:=by
 rcases h with h|h|h
 ·have:=lt_nl_iff.1 h; omega
 ·have:=lt_nl_iff.1 h; omega
 ·have h1:=Nat.mod_le a (pw i)
  have h2:=Nat.mod_le b (pw i)
  have:pw i<=a % pw i+b % pw i:=by
   rw [cry] at h
   rcases Nat.lt_or_ge (a % pw i+b % pw i) (pw i) with h3|h3
   ·rw [Nat.div_eq_of_lt h3] at h; omega
   ·exact h3
  omega
theorem sub_dg (b d i:Nat):dg (b+d) i+1000000000 * cry b d (i+1)=dg b i+dg d i+cry b d i:=by
 rw [<-cry_dg,<-cry_succ]
 exact Nat.mod_add_div _ _
theorem pw_mul_lt {a b i k:Nat} (h1:a < pw i) (h2:b < pw k):a * b < pw (i+k):=by
 rw [pw_add]
 by_cases hb:b=0
 ·subst hb; rw [Nat.mul_zero]; exact Nat.mul_pos (pw_pos i) (pw_pos k)
 ·exact Nat.mul_lt_mul_of_lt_of_le h1 (Nat.le_of_lt h2) (pw_pos k)
theorem ni_of_lt {l:List Int} (h:lims l) {i:Nat} (hv:val l < pw i):ni l i=0:=by
 rw [ni_val i h,dg_of_lt hv]; rfl
theorem mul_step {out:List Int} {j:Nat} {x y c n:Int} {V:Nat} (hl:lims out) (hj:j < out.length) (hx:0<=x) (hx2:x<=999999999) (hy:0<=y) (hy2:y<=999999999) (hc:0<=c) (hc2:c<=999999999) (hn:n=ni out j+x * y+c) (hv:val out+pw j * c.toNat=V) :
  0<=n/\n<=999999999999999999/\lims (out.set j (n % 1000000000))/\val (out.set j (n % 1000000000))+pw (j+1) * (n / 1000000000).toNat=V+pw j * (x * y).toNat:=by
 have h1:=lims_ni hl j
 have hxy:0<=x * y:=Int.mul_nonneg hx hy
 have hxy2:x * y<=999999999 * 999999999:=Int.mul_le_mul hx2 hy2 hy (by omega)
 refine ⟨by omega,by omega,lims_set hl j (by omega) (by omega),?_⟩
 have hs:=val_set (n % 1000000000) hj
 generalize val (out.set j (n % 1000000000))=v' at *
 rw [pw_succ]
 have e1:n.toNat=(ni out j).toNat+(x * y).toNat+c.toNat:=by omega
 have e2:n.toNat=(n % 1000000000).toNat+1000000000 * (n / 1000000000).toNat:=by omega
 generalize (ni out j).toNat=o at *
 generalize (x * y).toNat=p at *
 generalize c.toNat=cc at *
 generalize (n % 1000000000).toNat=r at *
 generalize (n / 1000000000).toNat=q at *
 have e3:pw j * n.toNat=pw j * o+pw j * p+pw j * cc:=by rw [e1,Nat.mul_add,Nat.mul_add]
 have e4:pw j * n.toNat=pw j * r+1000000000 * pw j * q:=by
  rw [e2,Nat.mul_add,<-Nat.mul_assoc,Nat.mul_comm (pw j) 1000000000]
 omega
theorem mul_row (a b i k:Nat):a % pw i * b+pw i * (dg a i * (b % pw k))+pw (i+k) * (dg a i * dg b k)=a % pw i * b+pw i * (dg a i * (b % pw (k+1))):=by
 rw [mod_pw_succ,pw_add,Nat.mul_add (dg a i),Nat.mul_add (pw i),<-Nat.add_assoc]
 congr 1
 simp only [Nat.mul_assoc,Nat.mul_left_comm,Nat.mul_comm]
theorem mul_rowEnd {a b i k:Nat} (h:nl b<=k):a % pw i * b+pw i * (dg a i * (b % pw k))=a % pw (i+1) * b:=by
 rw [Nat.mod_eq_of_lt (nl_iff.1 h),mod_pw_succ,Nat.add_mul,Nat.mul_assoc]
theorem mul_rowLt (a b i k:Nat):a % pw i * b+pw i * (dg a i * (b % pw k)) < pw (i+1+nl b):=by
 have h1:a % pw i * b+pw i * (dg a i * (b % pw k))<=a % pw (i+1) * b:=by
  rw [mod_pw_succ,Nat.add_mul,Nat.mul_assoc]
  exact Nat.add_le_add_left (Nat.mul_le_mul_left _ (Nat.mul_le_mul_left _ (Nat.mod_le _ _))) _
 exact Nat.lt_of_le_of_lt h1 (pw_mul_lt (Nat.mod_lt _ (pw_pos _)) (lt_nl b))
theorem small_step {a n i:Nat} (hn:0 < n):(a / pw (i+1) % n * 1000000000+dg a i) % n=a / pw i % n/\a / pw i / n=1000000000 * (a / pw (i+1) / n)+(a / pw (i+1) % n * 1000000000+dg a i) / n/\(a / pw (i+1) % n * 1000000000+dg a i) / n < 1000000000:=by
 have h1:=div_pw_succ a i
 have h2:=dg_lt a i
 generalize dg a i=d at *
 generalize a / pw (i+1)=q at *
 have h3:=Nat.mod_add_div q n
 have h4:=Nat.mod_lt q hn
 have h5:a / pw i=q % n * 1000000000+d+n * (1000000000 * (q / n)):=by
  rw [h1,Nat.mul_left_comm]; omega
 rw [h5]
 generalize q % n=r at *
 refine ⟨by rw [Nat.add_mul_mod_self_left],by rw [Nat.add_mul_div_left _ _ hn]; omega,?_⟩
 rw [Nat.div_lt_iff_lt_mul hn]
 have:(r+1) * 1000000000<=n * 1000000000:=Nat.mul_le_mul_right _ h4
 rw [Nat.mul_comm 1000000000 n]
 omega
theorem small_set {out:List Int} {i v:Nat} {V:Nat} (hl:lims out) (hi:i < out.length) (hv:v < 1000000000) (hV:val out=pw (i+1) * V):lims (out.set i (v:Int))/\val (out.set i (v:Int))=pw i * (1000000000 * V+v):=by
 refine ⟨lims_set hl i (by omega) (by omega),?_⟩
 have hs:=val_set (v:Int) hi
 have h0:ni out i=0:=by
  rw [ni_val i hl,hV,dg,pw_succ,Nat.mul_assoc,Nat.mul_left_comm,Nat.mul_div_cancel_left _ (pw_pos i),Nat.mul_mod_right]; rfl
 rw [h0,hV,Int.toNat_natCast,pw_succ] at hs
 rw [Nat.mul_add,<-Nat.mul_assoc,Nat.mul_comm (pw i) 1000000000]
 simpa using hs
end Go.Proofs.YtffdhjnbppagjaaGreat.DW

namespace Go.Proofs.YtffdhjnbppagjaaGreat.DW
open Go.RowKit
attribute [go_sem] ni_natL natL_len_nl
theorem app1 {l:List Int} {x y:Int} (h:x=y):l++[x]=l++[y]:=by rw [h]
set_option maxRecDepth 100000 in
theorem natAdd_fn (a b:Nat) (ha:nl a<=100000) (hb:nl b<=100000):Fn Tryz.prog 252 [⟨tInts,natL a⟩,⟨tInts,natL b⟩] true [⟨tInts,natL (a+b)⟩]:=by
 refine fn_enter tabOK mixes Tryz.func252 rfl rfl _ Tryz.ntmps252 _ Tryz.results252 (by simp) fun hwf=>?_
 try simp (maxSteps:=9^9) only[go_sem]
 refine ⟨by constructor<;>omega,by omega,by omega,?_⟩
 refine LoopG.intro _ _ _ (fun i:Nat=>⟨[(0,.sl .int (natL a)),(1,.sl .int (natL b)),(5,.row 0 0),(6,.sc (.int .i64 (cry a b i:Nat))),(7,.sc (.int .i64 i))],[(0,.row 3 .int 0 true (dig (a+b) i))]⟩) (fun i=>i<=100001/\(i=0\/pw (i - 1)<=a+b)) (fun i=>100002 - i) 0 ?_ ⟨by omega,.inl rfl⟩ ?_
 ·refine Wk.mk [] ?_
  try simp (maxSteps:=9^9) only[go_sem]
  try (and_intros<;>first|rfl|omega|exact ⟨_,rfl⟩)
  all_goals (exact ⟨⟨by rw [cry_zero]; rfl,rfl⟩,rfl⟩)
 ·rintro i ⟨h1,h2⟩
  have hcl:=cry_le a b i
  by_cases hc:(i:Int) < nl a\/(i:Int) < nl b\/(0:Int) < (cry a b i:Nat)
  ·have hbig:pw i<=a+b:=cry_big (by omega)
   have hi:i<=100000:=by
    have:=nl_add a b
    have:=lt_nl_iff.2 hbig
    omega
   have hda:=dg_lt a i
   have hdb:=dg_lt b i
   have hp:(i:Int) < nl a\/(¬ (i:Int) < nl a/\(i:Int) < nl b)\/(¬ (i:Int) < nl a/\¬ (i:Int) < nl b/\(0:Int) < (cry a b i:Nat)):=by omega
   rcases hp with hA|⟨hA,hB⟩|⟨hA,hB,hC⟩
   all_goals first|simp (maxSteps:=9^9) only[go_sem,hA,hB,hC]|simp (maxSteps:=9^9) only[go_sem,hA,hB]|simp (maxSteps:=9^9) only[go_sem,hA]
   all_goals
    repeat refine And.intro (by first|omega|(constructor<;>omega)|kernel_rfl) ?_
    refine CallW.mk (limb_fn (natL a) i (by omega)) ?_
    try simp (maxSteps:=9^9) only[go_sem]
    repeat refine And.intro (by first|omega|(constructor<;>omega)|kernel_rfl) ?_
    refine CallW.mk (limb_fn (natL b) i (by omega)) ?_
    try simp (maxSteps:=9^9) only[go_sem]
    refine ⟨by constructor<;>omega,by constructor<;>omega,RemW.pos (by omega) (by decide) ?_⟩
    try simp (maxSteps:=9^9) only[go_sem,dig_len]
    refine ⟨by omega,by omega,QuoW.pos (by omega) (by decide) ?_⟩
    try simp (maxSteps:=9^9) only[go_sem]
    refine ⟨by constructor<;>omega,LoopK.mk (i+1) ?_ ⟨by omega,.inr hbig⟩ (by omega)⟩
    refine Wk.mk [] ?_
    try simp (maxSteps:=9^9) only[go_sem]
    try (and_intros<;>first|rfl|omega|exact ⟨_,rfl⟩)
    all_goals (rw [dig_succ,<-cry_dg a b i,<-cry_succ a b i]; exact ⟨⟨by omega,rfl⟩,app1 (by omega)⟩)
  ·have hA:¬ (i:Int) < nl a:=by omega
   have hB:¬ (i:Int) < nl b:=by omega
   have hC:¬ (0:Int) < (cry a b i:Nat):=by omega
   try simp (maxSteps:=9^9) only[go_sem,hA,hB,hC]
   exact dig_eq (cry_end (by omega) (by omega) (by omega)) (by omega)
set_option maxRecDepth 100000 in
theorem l02Add_fn (a b:Nat) (ha:nl a<=100000) (hb:nl b<=100000):Fn Tryz.prog 308 [⟨tInts,natL a⟩,⟨tInts,natL b⟩] true [⟨tInts,natL (a+b)⟩]:=by
 refine fn_enter tabOK mixes Tryz.func308 rfl rfl _ Tryz.ntmps308 _ Tryz.results308 (by simp) fun hwf=>?_
 try simp (maxSteps:=9^9) only[go_sem]
 refine LoopG.intro _ _ _ (fun i:Nat=>⟨[(0,.sl .int (natL a)),(1,.sl .int (natL b)),(5,.row 0 0),(6,.sc (.int .i64 (cry a b i:Nat))),(7,.sc (.int .i64 i))],[(0,.row 3 .int 0 true (dig (a+b) i))]⟩) (fun i=>i<=100001/\(i=0\/pw (i - 1)<=a+b)) (fun i=>100002 - i) 0 ?_ ⟨by omega,.inl rfl⟩ ?_
 ·refine Wk.mk [] ?_
  try simp (maxSteps:=9^9) only[go_sem]
  try (and_intros<;>first|rfl|omega|exact ⟨_,rfl⟩)
  all_goals (exact ⟨⟨by rw [cry_zero]; rfl,rfl⟩,rfl⟩)
 ·rintro i ⟨h1,h2⟩
  have hcl:=cry_le a b i
  by_cases hc:(i:Int) < nl a\/(i:Int) < nl b\/(0:Int) < (cry a b i:Nat)
  ·have hbig:pw i<=a+b:=cry_big (by omega)
   have hi:i<=100000:=by
    have:=nl_add a b
    have:=lt_nl_iff.2 hbig
    omega
   have hda:=dg_lt a i
   have hdb:=dg_lt b i
   have hp:((i:Int) < nl a/\(i:Int) < nl b)\/((i:Int) < nl a/\¬ (i:Int) < nl b)\/(¬ (i:Int) < nl a/\(i:Int) < nl b)\/(¬ (i:Int) < nl a/\¬ (i:Int) < nl b/\(0:Int) < (cry a b i:Nat)):=by omega
   have za:¬ (i:Int) < nl a->dg a i=0:=fun h=>dg_of_lt (nl_iff.1 (by omega))
   have zb:¬ (i:Int) < nl b->dg b i=0:=fun h=>dg_of_lt (nl_iff.1 (by omega))
   rcases hp with ⟨hA,hB⟩|⟨hA,hB⟩|⟨hA,hB⟩|⟨hA,hB,hC⟩
   ·try simp (maxSteps:=9^9) only[go_sem,hA,hB]
    refine ⟨by omega,by constructor<;>omega,by omega,by constructor<;>omega,RemW.pos (by omega) (by decide) ?_⟩
    try simp (maxSteps:=9^9) only[go_sem,dig_len]
    refine ⟨by omega,by omega,QuoW.pos (by omega) (by decide) ?_⟩
    try simp (maxSteps:=9^9) only[go_sem]
    refine ⟨by constructor<;>omega,LoopK.mk (i+1) ?_ ⟨by omega,.inr hbig⟩ (by omega)⟩
    refine Wk.mk [] ?_
    try simp (maxSteps:=9^9) only[go_sem]
    try (and_intros<;>first|rfl|omega|exact ⟨_,rfl⟩)
    all_goals (rw [dig_succ,<-cry_dg a b i,<-cry_succ a b i]; exact ⟨⟨by omega,rfl⟩,app1 (by omega)⟩)
   ·have hz:=zb hB
    try simp (maxSteps:=9^9) only[go_sem,hA,hB]
    refine ⟨by omega,by constructor<;>omega,RemW.pos (by omega) (by decide) ?_⟩
    try simp (maxSteps:=9^9) only[go_sem,dig_len]
    refine ⟨by omega,by omega,QuoW.pos (by omega) (by decide) ?_⟩
    try simp (maxSteps:=9^9) only[go_sem]
    refine ⟨by constructor<;>omega,LoopK.mk (i+1) ?_ ⟨by omega,.inr hbig⟩ (by omega)⟩
    refine Wk.mk [] ?_
    try simp (maxSteps:=9^9) only[go_sem]
    try (and_intros<;>first|rfl|omega|exact ⟨_,rfl⟩)
    all_goals (rw [dig_succ,<-cry_dg a b i,<-cry_succ a b i]; exact ⟨⟨by omega,rfl⟩,app1 (by omega)⟩)
   ·have hz:=za hA
    try simp (maxSteps:=9^9) only[go_sem,hA,hB]
    refine ⟨by omega,by constructor<;>omega,RemW.pos (by omega) (by decide) ?_⟩
    try simp (maxSteps:=9^9) only[go_sem,dig_len]
    refine ⟨by omega,by omega,QuoW.pos (by omega) (by decide) ?_⟩
    try simp (maxSteps:=9^9) only[go_sem]
    refine ⟨by constructor<;>omega,LoopK.mk (i+1) ?_ ⟨by omega,.inr hbig⟩ (by omega)⟩
    refine Wk.mk [] ?_
    try simp (maxSteps:=9^9) only[go_sem]
    try (and_intros<;>first|rfl|omega|exact ⟨_,rfl⟩)
    all_goals (rw [dig_succ,<-cry_dg a b i,<-cry_succ a b i]; exact ⟨⟨by omega,rfl⟩,app1 (by omega)⟩)
   ·have hz:=za hA
    have hz2:=zb hB
    try simp (maxSteps:=9^9) only[go_sem,hA,hB,hC]
    refine RemW.pos (by omega) (by decide) ?_
    try simp (maxSteps:=9^9) only[go_sem,dig_len]
    refine ⟨by omega,by omega,QuoW.pos (by omega) (by decide) ?_⟩
    try simp (maxSteps:=9^9) only[go_sem]
    refine ⟨by constructor<;>omega,LoopK.mk (i+1) ?_ ⟨by omega,.inr hbig⟩ (by omega)⟩
    refine Wk.mk [] ?_
    try simp (maxSteps:=9^9) only[go_sem]
    try (and_intros<;>first|rfl|omega|exact ⟨_,rfl⟩)
    all_goals (rw [dig_succ,<-cry_dg a b i,<-cry_succ a b i]; exact ⟨⟨by omega,rfl⟩,app1 (by omega)⟩)
  ·have hA:¬ (i:Int) < nl a:=by omega
   have hB:¬ (i:Int) < nl b:=by omega
   have hC:¬ (0:Int) < (cry a b i:Nat):=by omega
   try simp (maxSteps:=9^9) only[go_sem,hA,hB,hC]
   exact dig_eq (cry_end (by omega) (by omega) (by omega)) (by omega)
end Go.Proofs.YtffdhjnbppagjaaGreat.DW

namespace Go.Proofs.YtffdhjnbppagjaaGreat.DW
open Go.RowKit
theorem natSub_fn' (b d:Nat) (ha:nl (b+d)<=100000):Fn Tryz.prog 293 [⟨tInts,natL (b+d)⟩,⟨tInts,natL b⟩] false [⟨tInts,natL d⟩]:=by
 refine fn_enter tabOK mixes Tryz.func293 rfl rfl _ Tryz.ntmps293 _ Tryz.results293 (by simp) fun hwf=>?_
 try simp (maxSteps:=9^9) only[go_sem]
 refine ⟨by omega,by omega,?_⟩
 refine LoopG.intro _ _ _ (fun i:Nat=>⟨[(0,.sl .int (natL (b+d))),(1,.sl .int (natL b)),(5,.row 0 0),(6,.sc (.int .i64 (cry b d i:Nat))),(13,.sc (.int .i64 (nl (b+d)))),(14,.sc (.int .i64 i))],[(0,.row 3 .int 0 true (dig d i))]⟩) (fun i=>i<=nl (b+d)) (fun i=>nl (b+d) - i) 0 ?_ (by omega) ?_
 ·refine Wk.mk [] ?_
  try simp (maxSteps:=9^9) only[go_sem]
  try (and_intros<;>first|rfl|omega|exact ⟨_,rfl⟩)
  all_goals (exact ⟨⟨by rw [cry_zero]; rfl,rfl⟩,rfl⟩)
 ·rintro i h1
  have hs:=sub_dg b d i
  have hc1:=cry_le b d i
  have hc2:=cry_le b d (i+1)
  have hd1:=dg_lt b i
  have hd2:=dg_lt d i
  have hd3:=dg_lt (b+d) i
  try simp (maxSteps:=9^9) only[go_sem]
  refine CondW_dec (fun hA=>?_) (fun hA=>?_)
  ·try simp (maxSteps:=9^9) only[go_sem,hA]
   refine ⟨by omega,?_⟩
   repeat refine And.intro (by first|omega|(constructor<;>omega)|kernel_rfl) ?_
   refine CallW.mk (limb_fn (natL b) i (by omega)) ?_
   try simp (maxSteps:=9^9) only[go_sem]
   refine ⟨by constructor<;>omega,by constructor<;>omega,by kernel_rfl,?_⟩
   refine CondW_dec (fun hB=>?_) (fun hB=>?_)
   ·try simp (maxSteps:=9^9) only[go_sem]
    refine ⟨by constructor<;>omega,?_⟩
    try simp (maxSteps:=9^9) only[go_sem,dig_len]
    refine ⟨by omega,by omega,by constructor<;>omega,LoopK.mk (i+1) ?_ (by omega) (by omega)⟩
    refine Wk.mk [] ?_
    try simp (maxSteps:=9^9) only[go_sem]
    try (and_intros<;>first|rfl|omega|exact ⟨_,rfl⟩)
    all_goals (rw [dig_succ]; exact ⟨⟨by omega,by omega⟩,app1 (by omega)⟩)
   ·try simp (maxSteps:=9^9) only[go_sem,dig_len]
    refine ⟨by omega,by omega,by constructor<;>omega,LoopK.mk (i+1) ?_ (by omega) (by omega)⟩
    refine Wk.mk [] ?_
    try simp (maxSteps:=9^9) only[go_sem]
    try (and_intros<;>first|rfl|omega|exact ⟨_,rfl⟩)
    all_goals (rw [dig_succ]; exact ⟨⟨by omega,by omega⟩,app1 (by omega)⟩)
  ·try simp (maxSteps:=9^9) only[go_sem,hA]
   repeat refine And.intro (by first|omega|(constructor<;>omega)|kernel_rfl) ?_
   refine CallW.mk (trimmed_fn (dig d i)) ?_
   try simp (maxSteps:=9^9) only[go_sem]
   exact trimL_dig (Nat.lt_of_le_of_lt (Nat.le_add_left d b) (nl_iff.1 (by omega)))
theorem natSub_fn (a b:Nat) (hab:b<=a) (ha:nl a<=100000):Fn Tryz.prog 293 [⟨tInts,natL a⟩,⟨tInts,natL b⟩] false [⟨tInts,natL (a - b)⟩]:=by
 obtain ⟨d,rfl⟩:=Nat.le.dest hab
 rw [Nat.add_sub_cancel_left]
 exact natSub_fn' b d ha
theorem l02Sub_fn' (b d:Nat) (ha:nl (b+d)<=100000):Fn Tryz.prog 310 [⟨tInts,natL (b+d)⟩,⟨tInts,natL b⟩] false [⟨tInts,natL d⟩]:=by
 refine fn_enter tabOK mixes Tryz.func310 rfl rfl _ Tryz.ntmps310 _ Tryz.results310 (by simp) fun hwf=>?_
 try simp (maxSteps:=9^9) only[go_sem]
 refine LoopG.intro _ _ _ (fun i:Nat=>⟨[(0,.sl .int (natL (b+d))),(1,.sl .int (natL b)),(5,.row 0 0),(6,.sc (.int .i64 (cry b d i:Nat))),(11,.sc (.int .i64 (nl (b+d)))),(12,.sc (.int .i64 i))],[(0,.row 3 .int 0 true (dig d i))]⟩) (fun i=>i<=nl (b+d)) (fun i=>nl (b+d) - i) 0 ?_ (by omega) ?_
 ·refine Wk.mk [] ?_
  try simp (maxSteps:=9^9) only[go_sem]
  try (and_intros<;>first|rfl|omega|exact ⟨_,rfl⟩)
  all_goals (exact ⟨⟨by rw [cry_zero]; rfl,rfl⟩,rfl⟩)
 ·rintro i h1
  have hs:=sub_dg b d i
  have hc1:=cry_le b d i
  have hc2:=cry_le b d (i+1)
  have hd1:=dg_lt b i
  have hd2:=dg_lt d i
  have hd3:=dg_lt (b+d) i
  try simp (maxSteps:=9^9) only[go_sem]
  refine CondW_dec (fun hA=>?_) (fun hA=>?_)
  ·try simp (maxSteps:=9^9) only[go_sem,hA]
   refine ⟨by omega,by constructor<;>omega,?_⟩
   refine CondW_dec (fun hZ=>?_) (fun hZ=>?_)
   ·try simp (maxSteps:=9^9) only[go_sem,hZ]
    refine ⟨by omega,by constructor<;>omega,?_⟩
    refine CondW_dec (fun hB=>?_) (fun hB=>?_)
    ·try simp (maxSteps:=9^9) only[go_sem]
     refine ⟨by constructor<;>omega,?_⟩
     try simp (maxSteps:=9^9) only[go_sem,dig_len]
     refine ⟨by omega,by omega,by constructor<;>omega,LoopK.mk (i+1) ?_ (by omega) (by omega)⟩
     refine Wk.mk [] ?_
     try simp (maxSteps:=9^9) only[go_sem]
     try (and_intros<;>first|rfl|omega|exact ⟨_,rfl⟩)
     all_goals (rw [dig_succ]; exact ⟨⟨by omega,by omega⟩,app1 (by omega)⟩)
    ·try simp (maxSteps:=9^9) only[go_sem,dig_len]
     refine ⟨by omega,by omega,by constructor<;>omega,LoopK.mk (i+1) ?_ (by omega) (by omega)⟩
     refine Wk.mk [] ?_
     try simp (maxSteps:=9^9) only[go_sem]
     try (and_intros<;>first|rfl|omega|exact ⟨_,rfl⟩)
     all_goals (rw [dig_succ]; exact ⟨⟨by omega,by omega⟩,app1 (by omega)⟩)
   ·have hz:dg b i=0:=dg_of_lt (nl_iff.1 (by omega))
    try simp (maxSteps:=9^9) only[go_sem,hZ]
    refine CondW_dec (fun hB=>?_) (fun hB=>?_)
    ·try simp (maxSteps:=9^9) only[go_sem]
     refine ⟨by constructor<;>omega,?_⟩
     try simp (maxSteps:=9^9) only[go_sem,dig_len]
     refine ⟨by omega,by omega,by constructor<;>omega,LoopK.mk (i+1) ?_ (by omega) (by omega)⟩
     refine Wk.mk [] ?_
     try simp (maxSteps:=9^9) only[go_sem]
     try (and_intros<;>first|rfl|omega|exact ⟨_,rfl⟩)
     all_goals (rw [dig_succ]; exact ⟨⟨by omega,by omega⟩,app1 (by omega)⟩)
    ·try simp (maxSteps:=9^9) only[go_sem,dig_len]
     refine ⟨by omega,by omega,by constructor<;>omega,LoopK.mk (i+1) ?_ (by omega) (by omega)⟩
     refine Wk.mk [] ?_
     try simp (maxSteps:=9^9) only[go_sem]
     try (and_intros<;>first|rfl|omega|exact ⟨_,rfl⟩)
     all_goals (rw [dig_succ]; exact ⟨⟨by omega,by omega⟩,app1 (by omega)⟩)
  ·try simp (maxSteps:=9^9) only[go_sem,hA]
   repeat refine And.intro (by first|omega|(constructor<;>omega)|kernel_rfl) ?_
   refine CallW.mk (l02Trim_fn (dig d i)) ?_
   try simp (maxSteps:=9^9) only[go_sem]
   exact trimL_dig (Nat.lt_of_le_of_lt (Nat.le_add_left d b) (nl_iff.1 (by omega)))
theorem l02Sub_fn (a b:Nat) (hab:b<=a) (ha:nl a<=100000):Fn Tryz.prog 310 [⟨tInts,natL a⟩,⟨tInts,natL b⟩] false [⟨tInts,natL (a - b)⟩]:=by
 obtain ⟨d,rfl⟩:=Nat.le.dest hab
 rw [Nat.add_sub_cancel_left]
 exact l02Sub_fn' b d ha
end Go.Proofs.YtffdhjnbppagjaaGreat.DW

namespace Go.Proofs.YtffdhjnbppagjaaGreat.DW
open Go.RowKit
theorem toNat_mul_dg (a b i k:Nat):((dg a i:Int) * (dg b k:Int)).toNat=dg a i * dg b k:=by rw [<-Int.natCast_mul,Int.toNat_natCast]
theorem toNat_addc (i k:Nat):((i:Int)+(k:Int)).toNat=i+k:=by omega
attribute [go_sem] toNat_addc ne_eq
theorem natMul_fn (a b:Nat) (ha:nl a<=100000) (hb:nl b<=100000):Fn Tryz.prog 285 [⟨tInts,natL a⟩,⟨tInts,natL b⟩] false [⟨tInts,natL (a * b)⟩]:=by
 refine fn_enter tabOK mixes Tryz.func285 rfl rfl _ Tryz.ntmps285 _ Tryz.results285 (by simp) fun hwf=>?_
 try simp (maxSteps:=9^9) only[go_sem]
 repeat refine And.intro (by first|omega|(constructor<;>omega)|kernel_rfl) ?_
 refine LoopG.intro _ _ _ (fun x:Nat × List Int=>⟨[(0,.sl .int (natL a)),(1,.sl .int (natL b)),(5,.row 0 0),(17,.sl .int (natL a)),(18,.sc (.int .i64 (nl a))),(19,.sc (.int .i64 x.1))],[(0,.row 3 .int 0 true x.2)]⟩) (fun x=>x.1<=nl a/\lims x.2/\x.2.length=nl a+nl b/\val x.2=a % pw x.1 * b) (fun x=>nl a - x.1) (0,List.replicate (nl a+nl b) 0) ?_ ⟨by simp,lims_rep _,by simp,by simp [val_rep,pw_zero,Nat.mod_one]⟩ ?_
 ·refine Wk.mk [] ?_
  try simp (maxSteps:=9^9) only[go_sem]
  try (and_intros<;>first|rfl|omega|exact ⟨_,rfl⟩)
 ·rintro ⟨i,out⟩ ⟨h1,h2,h3,h4⟩
  simp only at h1 h2 h3 h4
  have hd1:=dg_lt a i
  try simp (maxSteps:=9^9) only[go_sem]
  refine CondW_dec (fun hA=>?_) (fun hA=>?_)
  ·try simp (maxSteps:=9^9) only[go_sem,hA]
   repeat refine And.intro (by first|omega|(constructor<;>omega)|kernel_rfl) ?_
   refine LoopG.intro _ _ _ (fun x:Nat × Int × List Int=>⟨[(0,.sl .int (natL a)),(1,.sl .int (natL b)),(5,.row 0 0),(6,.sc (.int .i64 i)),(7,.sc (.int .i64 (dg a i))),(8,.sc (.int .i64 x.2.1)),(9,.sc (.int .i64 x.1)),(17,.sl .int (natL a)),(18,.sc (.int .i64 (nl a))),(19,.sc (.int .i64 i))],[(0,.row 3 .int 0 true x.2.2)]⟩) (fun x=>x.1<=nl b+1/\0<=x.2.1/\x.2.1<=999999999/\lims x.2.2/\x.2.2.length=nl a+nl b/\val x.2.2+pw (i+x.1) * x.2.1.toNat=a % pw i * b+pw i * (dg a i * (b % pw x.1))) (fun x=>nl b+1 - x.1) (0,0,out) ?_ ⟨by simp,by simp,by simp,h2,h3,by simp [h4,pw_zero,Nat.mod_one]⟩ ?_
   ·refine Wk.mk [] ?_
    try simp (maxSteps:=9^9) only[go_sem]
    try (and_intros<;>first|rfl|omega|exact ⟨_,rfl⟩)
   ·rintro ⟨k,c,ou⟩ ⟨g1,g2,g3,g4,g5,g6⟩
    simp only at g1 g2 g3 g4 g5 g6
    by_cases hc:(k:Int) < nl b\/0 < c
    ·have hk:k<=nl b:=by
      rcases hc with hc|hc
      ·omega
      ·have e1:=mul_rowLt a b i k
       rw [<-g6] at e1
       have e2:pw (i+k) * 1<=pw (i+k) * c.toNat:=Nat.mul_le_mul_left _ (by omega)
       have e3:pw (i+k) < pw (i+1+nl b):=by omega
       have:=pw_lt_iff.1 e3
       omega
     have hd2:=dg_lt b k
     obtain ⟨m1,m2,m3,m4⟩:=mul_step (j:=i+k) (x:=dg a i) (y:=dg b k) (c:=c) (n:=ni ou (i+k)+dg a i * dg b k+c) g4 (by omega) (by omega) (by omega) (by omega) (by omega) g2 g3 rfl g6
     rw [toNat_mul_dg,mul_row] at m4
     have hni:=lims_ni g4 (i+k)
     have hmm:0<=(dg a i:Int) * (dg b k:Int):=Int.mul_nonneg (by omega) (by omega)
     generalize hmg:(dg a i:Int) * (dg b k:Int)=mm at *
     have hp:(k:Int) < nl b\/(¬ (k:Int) < nl b/\0 < c):=by omega
     rcases hp with hB|⟨hB,hC⟩
     all_goals first|simp (maxSteps:=9^9) only[go_sem,hB,hC]|simp (maxSteps:=9^9) only[go_sem,hB]
     all_goals
      repeat refine And.intro (by first|omega|(constructor<;>omega)|kernel_rfl) ?_
      refine CallW.mk (limb_fn (natL b) k (by omega)) ?_
      try simp (maxSteps:=9^9) only[go_sem]
      rw [hmg]
      repeat refine And.intro (by first|omega|(constructor<;>omega)|kernel_rfl) ?_
      refine RemW.pos (by omega) (by decide) ?_
      try simp (maxSteps:=9^9) only[go_sem]
      repeat refine And.intro (by first|omega|(constructor<;>omega)|kernel_rfl) ?_
      refine QuoW.pos (by omega) (by decide) ?_
      try simp (maxSteps:=9^9) only[go_sem]
      refine ⟨by constructor<;>omega,LoopK.mk (k+1,(ni ou (i+k)+mm+c) / 1000000000,ou.set (i+k) ((ni ou (i+k)+mm+c) % 1000000000)) ?_ ⟨by simp only; omega,by simp only; omega,by simp only; omega,m3,by simp [g5],m4⟩ (by simp only; omega)⟩
      refine Wk.mk [] ?_
      try simp (maxSteps:=9^9) only[go_sem]
      try (and_intros<;>first|rfl|omega|exact ⟨_,rfl⟩)
    ·have hB:¬ (k:Int) < nl b:=by omega
     have hC:¬ 0 < c:=by omega
     have hc0:c=0:=by omega
     try simp (maxSteps:=9^9) only[go_sem,hB,hC]
     subst hc0
     rw [mul_rowEnd (by omega)] at g6
     refine ⟨by constructor<;>omega,LoopK.mk (i+1,ou) ?_ ⟨by simp only; omega,g4,g5,by simpa using g6⟩ (by simp only; omega)⟩
     refine Wk.mk [] ?_
     try simp (maxSteps:=9^9) only[go_sem]
     try (and_intros<;>first|rfl|omega|exact ⟨_,rfl⟩)
  ·try simp (maxSteps:=9^9) only[go_sem,hA]
   repeat refine And.intro (by first|omega|(constructor<;>omega)|kernel_rfl) ?_
   refine CallW.mk (trimmed_fn out) ?_
   try simp (maxSteps:=9^9) only[go_sem]
   rw [trimL_val h2,h4,Nat.mod_eq_of_lt (nl_iff.1 (by omega))]
theorem l02Mul_fn (a b:Nat) (ha:nl a<=100000) (hb:nl b<=100000):Fn Tryz.prog 237 [⟨tInts,natL a⟩,⟨tInts,natL b⟩] false [⟨tInts,natL (a * b)⟩]:=by
 by_cases hz:a=0\/b=0
 ·have hp:nl a=0\/(nl a ≠ 0/\nl b=0):=by
   rcases hz with hz|hz
   ·exact .inl (nl_eq_zero.2 hz)
   ·by_cases h0:nl a=0
    ·exact .inl h0
    ·exact .inr ⟨h0,nl_eq_zero.2 hz⟩
  have hr:natL (a * b)=[]:=by rcases hz with rfl|rfl<;>simp [natL_zero]
  rw [hr]
  refine fn_enter tabOK mixes Tryz.func237 rfl rfl _ Tryz.ntmps237 _ Tryz.results237 (by simp) fun hwf=>?_
  rcases hp with h1|⟨h1,h2⟩
  ·have hA:(nl a:Int)=0:=by omega
   try simp (maxSteps:=9^9) only[go_sem,hA]
  ·have hA:¬ (nl a:Int)=0:=by omega
   have hB:(nl b:Int)=0:=by omega
   try simp (maxSteps:=9^9) only[go_sem,hA,hB]
 have hA:¬ (nl a:Int)=0:=fun h=>hz (.inl (nl_eq_zero.1 (by omega)))
 have hB:¬ (nl b:Int)=0:=fun h=>hz (.inr (nl_eq_zero.1 (by omega)))
 refine fn_enter tabOK mixes Tryz.func237 rfl rfl _ Tryz.ntmps237 _ Tryz.results237 (by simp) fun hwf=>?_
 try simp (maxSteps:=9^9) only[go_sem,hA,hB]
 repeat refine And.intro (by first|omega|(constructor<;>omega)|kernel_rfl) ?_
 refine LoopG.intro _ _ _ (fun x:Nat × List Int=>⟨[(0,.sl .int (natL a)),(1,.sl .int (natL b)),(5,.row 0 0),(26,.sl .int (natL a)),(27,.sc (.int .i64 (nl a))),(28,.sc (.int .i64 x.1))],[(0,.row 3 .int 0 true x.2)]⟩) (fun x=>x.1<=nl a/\lims x.2/\x.2.length=nl a+nl b/\val x.2=a % pw x.1 * b) (fun x=>nl a - x.1) (0,List.replicate (nl a+nl b) 0) ?_ ⟨by simp,lims_rep _,by simp,by simp [val_rep,pw_zero,Nat.mod_one]⟩ ?_
 ·refine Wk.mk [] ?_
  try simp (maxSteps:=9^9) only[go_sem]
  try (and_intros<;>first|rfl|omega|exact ⟨_,rfl⟩)
 ·rintro ⟨i,out⟩ ⟨h1,h2,h3,h4⟩
  simp only at h1 h2 h3 h4
  have hd1:=dg_lt a i
  try simp (maxSteps:=9^9) only[go_sem]
  refine CondW_dec (fun hC=>?_) (fun hC=>?_)
  ·try simp (maxSteps:=9^9) only[go_sem,hC]
   repeat refine And.intro (by first|omega|(constructor<;>omega)|kernel_rfl) ?_
   have hv:val out < pw (i+nl b):=by rw [h4]; exact pw_mul_lt (Nat.mod_lt _ (pw_pos i)) (lt_nl b)
   refine LoopG.intro _ _ _ (fun x:Nat × Int × List Int=>⟨[(0,.sl .int (natL a)),(1,.sl .int (natL b)),(5,.row 0 0),(6,.sc (.int .i64 i)),(7,.sc (.int .i64 (dg a i))),(8,.sc (.int .i64 x.2.1)),(26,.sl .int (natL a)),(27,.sc (.int .i64 (nl a))),(28,.sc (.int .i64 i)),(33,.sl .int (natL b)),(34,.sc (.int .i64 (nl b))),(35,.sc (.int .i64 x.1))],[(0,.row 3 .int 0 true x.2.2)]⟩) (fun x=>x.1<=nl b/\0<=x.2.1/\x.2.1<=999999999/\lims x.2.2/\x.2.2.length=nl a+nl b/\ni x.2.2 (i+nl b)=0/\val x.2.2+pw (i+x.1) * x.2.1.toNat=a % pw i * b+pw i * (dg a i * (b % pw x.1))) (fun x=>nl b - x.1) (0,0,out) ?_ ⟨by simp,by simp,by simp,h2,h3,ni_of_lt h2 hv,by simp [h4,pw_zero,Nat.mod_one]⟩ ?_
   ·refine Wk.mk [] ?_
    try simp (maxSteps:=9^9) only[go_sem]
    try (and_intros<;>first|rfl|omega|exact ⟨_,rfl⟩)
   ·rintro ⟨k,c,ou⟩ ⟨g1,g2,g3,g4,g5,g7,g6⟩
    simp only at g1 g2 g3 g4 g5 g6 g7
    try simp (maxSteps:=9^9) only[go_sem]
    refine CondW_dec (fun hD=>?_) (fun hD=>?_)
    ·have hd2:=dg_lt b k
     obtain ⟨m1,m2,m3,m4⟩:=mul_step (j:=i+k) (x:=dg a i) (y:=dg b k) (c:=c) (n:=ni ou (i+k)+dg a i * dg b k+c) g4 (by omega) (by omega) (by omega) (by omega) (by omega) g2 g3 rfl g6
     rw [toNat_mul_dg,mul_row] at m4
     have hni:=lims_ni g4 (i+k)
     have hmm:0<=(dg a i:Int) * (dg b k:Int):=Int.mul_nonneg (by omega) (by omega)
     generalize hmg:(dg a i:Int) * (dg b k:Int)=mm at *
     try simp (maxSteps:=9^9) only[go_sem,hD,hmg]
     repeat refine And.intro (by first|omega|(constructor<;>omega)|kernel_rfl) ?_
     refine RemW.pos (by omega) (by decide) ?_
     try simp (maxSteps:=9^9) only[go_sem]
     repeat refine And.intro (by first|omega|(constructor<;>omega)|kernel_rfl) ?_
     refine QuoW.pos (by omega) (by decide) ?_
     try simp (maxSteps:=9^9) only[go_sem]
     repeat refine And.intro (by first|omega|(constructor<;>omega)|kernel_rfl) ?_
     refine LoopK.mk (k+1,(ni ou (i+k)+mm+c) / 1000000000,ou.set (i+k) ((ni ou (i+k)+mm+c) % 1000000000)) ?_ ⟨by simp only; omega,by simp only; omega,by simp only; omega,m3,by simp [g5],?_,m4⟩ (by simp only; omega)
     ·refine Wk.mk [] ?_
      try simp (maxSteps:=9^9) only[go_sem]
      try (and_intros<;>first|rfl|omega|exact ⟨_,rfl⟩)
     ·simp only
      rw [ni_lt (by simp; omega),List.getElem_set_ne (by omega),<-ni_lt (by omega)]; exact g7
    ·try simp (maxSteps:=9^9) only[go_sem,hD]
     have hk:k=nl b:=by omega
     subst hk
     rw [mul_rowEnd (Nat.le_refl _)] at g6
     have hs:=val_set c (show i+nl b < ou.length by omega)
     rw [g7] at hs
     repeat refine And.intro (by first|omega|(constructor<;>omega)|kernel_rfl) ?_
     refine LoopK.mk (i+1,ou.set (i+nl b) c) ?_ ⟨by simp only; omega,lims_set g4 _ g2 g3,by simp [g5],by simp only; rw [<-g6]; simpa using hs⟩ (by simp only; omega)
     refine Wk.mk [] ?_
     try simp (maxSteps:=9^9) only[go_sem]
     try (and_intros<;>first|rfl|omega|exact ⟨_,rfl⟩)
  ·try simp (maxSteps:=9^9) only[go_sem,hC]
   repeat refine And.intro (by first|omega|(constructor<;>omega)|kernel_rfl) ?_
   refine CallW.mk (l02Trim_fn out) ?_
   try simp (maxSteps:=9^9) only[go_sem]
   rw [trimL_val h2,h4,Nat.mod_eq_of_lt (nl_iff.1 (by omega))]
theorem natDivSmall_fn (a n:Nat) (hn:0 < n) (hn2:n < 1000000000) (ha:nl a<=100000):Fn Tryz.prog 219 [⟨tInts,natL a⟩,⟨.int,(n:Int)⟩] false [⟨tInts,natL (a / n)⟩,⟨.int,((a % n:Nat):Int)⟩]:=by
 refine fn_enter tabOK mixes Tryz.func219 rfl rfl _ Tryz.ntmps219 _ Tryz.results219 (by simp) fun hwf=>?_
 try simp (maxSteps:=9^9) only[go_sem]
 repeat refine And.intro (by first|omega|(constructor<;>omega)|kernel_rfl) ?_
 refine LoopG.intro _ _ _ (fun x:Nat × List Int=>⟨[(0,.sl .int (natL a)),(1,.sc (.int .i64 n)),(6,.row 0 0),(7,.sc (.int .i64 (a / pw x.1 % n:Nat))),(8,.sc (.int .i64 ((x.1:Int) - 1)))],[(0,.row 3 .int 0 true x.2)]⟩) (fun x=>x.1<=nl a/\lims x.2/\x.2.length=nl a/\val x.2=pw x.1 * (a / pw x.1 / n)) (fun x=>x.1) (nl a,List.replicate (nl a) 0) ?_ ⟨by simp,lims_rep _,by simp,by simp [val_rep,Nat.div_eq_of_lt (lt_nl a)]⟩ ?_
 ·refine Wk.mk [] ?_
  try simp (maxSteps:=9^9) only[go_sem]
  try (and_intros<;>first|rfl|omega|exact ⟨_,rfl⟩)
  all_goals (simp [Nat.div_eq_of_lt (lt_nl a)])
 ·rintro ⟨t,out⟩ ⟨h1,h2,h3,h4⟩
  simp only at h1 h2 h3 h4
  have hml:=Nat.mod_lt (a / pw t) hn
  try simp (maxSteps:=9^9) only[go_sem]
  refine CondW_dec (fun hA=>?_) (fun hA=>?_)
  ·obtain ⟨i,rfl⟩:∃ i,t=i+1:=⟨t - 1,by omega⟩
   have hd1:=dg_lt a i
   obtain ⟨s1,s2,s3⟩:=small_step (a:=a) (i:=i) hn
   obtain ⟨s4,s5⟩:=small_set h2 (show i < out.length by omega) s3 h4
   have ei:((i+1:Nat):Int) - 1=i:=by omega
   try simp (maxSteps:=9^9) only[go_sem,ei]
   repeat refine And.intro (by first|omega|(constructor<;>omega)|kernel_rfl) ?_
   refine QuoW.pos (by omega) (by omega) ?_
   try simp (maxSteps:=9^9) only[go_sem]
   repeat refine And.intro (by first|omega|(constructor<;>omega)|kernel_rfl) ?_
   refine RemW.pos (by omega) (by omega) ?_
   try simp (maxSteps:=9^9) only[go_sem]
   repeat refine And.intro (by first|omega|(constructor<;>omega)|kernel_rfl) ?_
   have eq1:(((a / pw (i+1) % n:Nat):Int) * 1000000000+(dg a i:Int)) / (n:Int)=(((a / pw (i+1) % n * 1000000000+dg a i) / n:Nat):Int):=by
    rw [Int.natCast_ediv]; congr 1
   have eq2:(((a / pw (i+1) % n:Nat):Int) * 1000000000+(dg a i:Int)) % (n:Int)=((a / pw i % n:Nat):Int):=by
    rw [<-s1,Int.natCast_emod]; congr 1
   refine LoopK.mk (i,out.set i (((a / pw (i+1) % n * 1000000000+dg a i) / n:Nat):Int)) ?_ ⟨by simp only; omega,s4,by simp [h3],by simp only; rw [s5,s2]⟩ (by simp only; omega)
   refine Wk.mk [] ?_
   try simp (maxSteps:=9^9) only[go_sem]
   try (and_intros<;>first|rfl|omega|exact ⟨_,rfl⟩)
   all_goals (rw [eq1,eq2]; exact ⟨rfl,rfl⟩)
  ·have ht:t=0:=by omega
   subst ht
   try simp (maxSteps:=9^9) only[go_sem,hA]
   repeat refine And.intro (by first|omega|(constructor<;>omega)|kernel_rfl) ?_
   refine CallW.mk (trimmed_fn out) ?_
   try simp (maxSteps:=9^9) only[go_sem]
   rw [trimL_val h2,h4,pw_zero,Nat.div_one,Nat.one_mul]
   exact ⟨rfl,rfl⟩
theorem l02Small_fn (a n:Nat) (hn:0 < n) (hn2:n < 1000000000) (ha:nl a<=100000):Fn Tryz.prog 343 [⟨tInts,natL a⟩,⟨.int,(n:Int)⟩] false [⟨tInts,natL (a / n)⟩,⟨.int,((a % n:Nat):Int)⟩]:=by
 refine fn_enter tabOK mixes Tryz.func343 rfl rfl _ Tryz.ntmps343 _ Tryz.results343 (by simp) fun hwf=>?_
 try simp (maxSteps:=9^9) only[go_sem]
 repeat refine And.intro (by first|omega|(constructor<;>omega)|kernel_rfl) ?_
 refine LoopG.intro _ _ _ (fun x:Nat × List Int=>⟨[(0,.sl .int (natL a)),(1,.sc (.int .i64 n)),(6,.row 0 0),(7,.sc (.int .i64 (a / pw x.1 % n:Nat))),(8,.sc (.int .i64 ((x.1:Int) - 1)))],[(0,.row 3 .int 0 true x.2)]⟩) (fun x=>x.1<=nl a/\lims x.2/\x.2.length=nl a/\val x.2=pw x.1 * (a / pw x.1 / n)) (fun x=>x.1) (nl a,List.replicate (nl a) 0) ?_ ⟨by simp,lims_rep _,by simp,by simp [val_rep,Nat.div_eq_of_lt (lt_nl a)]⟩ ?_
 ·refine Wk.mk [] ?_
  try simp (maxSteps:=9^9) only[go_sem]
  try (and_intros<;>first|rfl|omega|exact ⟨_,rfl⟩)
  all_goals (simp [Nat.div_eq_of_lt (lt_nl a)])
 ·rintro ⟨t,out⟩ ⟨h1,h2,h3,h4⟩
  simp only at h1 h2 h3 h4
  have hml:=Nat.mod_lt (a / pw t) hn
  try simp (maxSteps:=9^9) only[go_sem]
  refine CondW_dec (fun hA=>?_) (fun hA=>?_)
  ·obtain ⟨i,rfl⟩:∃ i,t=i+1:=⟨t - 1,by omega⟩
   have hd1:=dg_lt a i
   obtain ⟨s1,s2,s3⟩:=small_step (a:=a) (i:=i) hn
   obtain ⟨s4,s5⟩:=small_set h2 (show i < out.length by omega) s3 h4
   have ei:((i+1:Nat):Int) - 1=i:=by omega
   try simp (maxSteps:=9^9) only[go_sem,ei]
   repeat refine And.intro (by first|omega|(constructor<;>omega)|kernel_rfl) ?_
   refine QuoW.pos (by omega) (by omega) ?_
   try simp (maxSteps:=9^9) only[go_sem]
   repeat refine And.intro (by first|omega|(constructor<;>omega)|kernel_rfl) ?_
   refine RemW.pos (by omega) (by omega) ?_
   try simp (maxSteps:=9^9) only[go_sem]
   repeat refine And.intro (by first|omega|(constructor<;>omega)|kernel_rfl) ?_
   have eq1:(((a / pw (i+1) % n:Nat):Int) * 1000000000+(dg a i:Int)) / (n:Int)=(((a / pw (i+1) % n * 1000000000+dg a i) / n:Nat):Int):=by
    rw [Int.natCast_ediv]; congr 1
   have eq2:(((a / pw (i+1) % n:Nat):Int) * 1000000000+(dg a i:Int)) % (n:Int)=((a / pw i % n:Nat):Int):=by
    rw [<-s1,Int.natCast_emod]; congr 1
   refine LoopK.mk (i,out.set i (((a / pw (i+1) % n * 1000000000+dg a i) / n:Nat):Int)) ?_ ⟨by simp only; omega,s4,by simp [h3],by simp only; rw [s5,s2]⟩ (by simp only; omega)
   refine Wk.mk [] ?_
   try simp (maxSteps:=9^9) only[go_sem]
   try (and_intros<;>first|rfl|omega|exact ⟨_,rfl⟩)
   all_goals (rw [eq1,eq2]; exact ⟨rfl,rfl⟩)
  ·have ht:t=0:=by omega
   subst ht
   try simp (maxSteps:=9^9) only[go_sem,hA]
   repeat refine And.intro (by first|omega|(constructor<;>omega)|kernel_rfl) ?_
   refine CallW.mk (l02Trim_fn out) ?_
   try simp (maxSteps:=9^9) only[go_sem]
   rw [trimL_val h2,h4,pw_zero,Nat.div_one,Nat.one_mul]
   exact ⟨rfl,rfl⟩
end Go.Proofs.YtffdhjnbppagjaaGreat.DW

namespace Go.Proofs.YtffdhjnbppagjaaGreat.DW
open Ieee
theorem uu_ex:∃ u:Nat,u=2 ^ 1074:=⟨_,rfl⟩
theorem gg_ex:∃ u:Nat,u=2 ^ 1000:=⟨_,rfl⟩
theorem ll_ex:∃ u:Nat,u=2 ^ 2000:=⟨_,rfl⟩
noncomputable def UU:Nat:=Classical.choose uu_ex
noncomputable def GG:Nat:=Classical.choose gg_ex
noncomputable def LL:Nat:=Classical.choose ll_ex
theorem uu_def:UU=2 ^ 1074:=Classical.choose_spec uu_ex
theorem gg_def:GG=2 ^ 1000:=Classical.choose_spec gg_ex
theorem ll_def:LL=2 ^ 2000:=Classical.choose_spec ll_ex
def Rd (x R:Nat):Prop:=∃ m k:Nat,double.read x=.number false m ((k:Int) - 1074)/\m < 2 ^ 53/\k<=2000/\R=m * 2 ^ k
def Near (T N:Nat):Prop:=T * 2 ^ 53<=N * 2 ^ 53+N/\N * 2 ^ 53<=T * 2 ^ 53+N
theorem near_refl (N:Nat):Near N N:=⟨Nat.le_add_right ..,Nat.le_add_right ..⟩
theorem double_least:double.leastPlace=-1074:=by decide
theorem double_binade:double.binade=2 ^ 52:=by decide
theorem double_inf:double.infRung=2047 * 2 ^ 52:=by decide
theorem double_sign:double.signWeight=2 ^ 63:=by decide
theorem read_rung {t kept:Nat} (h1:kept<=2 ^ 53) (h2:t=0\/2 ^ 52<=kept) (h3:t<=1990):Rd (t * 2 ^ 52+kept) (kept * 2 ^ t):=by
 have hlt:t * 2 ^ 52+kept < 2047 * 2 ^ 52:=by omega
 unfold Rd Format.read
 simp only [double_least,double_binade,double_inf,double_sign]
 have e1:(t * 2 ^ 52+kept) / 2 ^ 63 % 2=0:=by rw [Nat.div_eq_of_lt (by omega)]
 have e2:(t * 2 ^ 52+kept) % 2 ^ 63=t * 2 ^ 52+kept:=Nat.mod_eq_of_lt (by omega)
 rw [e1,e2]
 by_cases ha:t * 2 ^ 52+kept < 2 ^ 52
 ·have ht:t=0:=by omega
  subst ht
  refine ⟨kept,0,?_,by omega,by omega,rfl⟩
  rw [if_pos ha]
  simp
 ·rw [if_neg ha,if_pos hlt]
  by_cases hk:kept=2 ^ 53
  ·subst hk
   refine ⟨2 ^ 52,t+1,?_,by decide,by omega,by rw [Nat.pow_succ]; omega⟩
   have e3:(t * 2 ^ 52+2 ^ 53) % 2 ^ 52=0:=by omega
   have e4:(t * 2 ^ 52+2 ^ 53) / 2 ^ 52=t+2:=by omega
   rw [e3,e4]
   simp
   omega
  ·refine ⟨kept,t,?_,by omega,by omega,rfl⟩
   have e3:(t * 2 ^ 52+kept) % 2 ^ 52=kept - 2 ^ 52:=by omega
   have e4:(t * 2 ^ 52+kept) / 2 ^ 52=t+1:=by omega
   rw [e3,e4]
   simp
   omega
theorem cut_zero (n:Nat):Toward.even.cut false n 0=n:=by
 simp [Toward.cut,Nat.mod_one]
theorem cut_near {n d:Nat} (hd:d<=n.log2+2):2 * (Toward.even.cut false n d * 2 ^ d)<=2 * n+2 ^ d/\2 * n<=2 * (Toward.even.cut false n d * 2 ^ d)+2 ^ d/\n / 2 ^ d<=Toward.even.cut false n d/\Toward.even.cut false n d<=n / 2 ^ d+1:=by
 have hg:(1:Nat) <<< min d (n.log2+2)=2 ^ d:=by rw [Nat.min_eq_left hd,Nat.one_shiftLeft]
 have hdm:=Nat.div_add_mod n (2 ^ d)
 have hml:=Nat.mod_lt n (Nat.two_pow_pos d)
 rw [Nat.mul_comm] at hdm
 unfold Toward.cut
 simp only [hg]
 generalize n / 2 ^ d=q at *
 generalize n % 2 ^ d=r at *
 generalize 2 ^ d=g at *
 by_cases h:(decide (g < 2 * r) || g == 2 * r && q % 2 == 1)=true
 ·rw [h]
  simp only [Bool.or_eq_true,decide_eq_true_eq,Bool.and_eq_true,beq_iff_eq] at h
  rw [Bool.toNat_true,Nat.add_mul,Nat.one_mul]
  omega
 ·rw [Bool.not_eq_true] at h
  rw [h]
  simp only [Bool.or_eq_false_iff,decide_eq_false_iff_not,Bool.and_eq_false_iff,beq_eq_false_iff_ne] at h
  rw [Bool.toNat_false,Nat.add_zero]
  omega
theorem lin1 {K M g:Nat} (c1:2 * K<=2 * M+g) (c2:2 * M<=2 * K+g) (hg:2 ^ 52 * g<=M):K * 2 ^ 53<=M * 2 ^ 53+M/\M * 2 ^ 53<=K * 2 ^ 53+M:=by omega
theorem lin2 {M D n:Nat} (g1:M<=2 * D+n) (g2:2 * D<=M+n) (hb:2 ^ 53 * n<=D):M * 2 ^ 53<=2 * D * 2 ^ 53+2 * D/\2 * D * 2 ^ 53<=M * 2 ^ 53+2 * D:=by omega
theorem pmul_lt {n a b c:Nat} (h:n < 2 ^ a) (hc:a+b<=c):n * 2 ^ b < 2 ^ c:=by
 have h1:n * 2 ^ b < 2 ^ a * 2 ^ b:=Nat.mul_lt_mul_of_pos_right h (Nat.two_pow_pos b)
 rw [<-Nat.pow_add] at h1
 exact Nat.lt_of_lt_of_le h1 (Nat.pow_le_pow_right (by decide) hc)
theorem pow_split {a b c:Nat} (h:c=a+b):2 ^ c=2 ^ a * 2 ^ b:=by rw [h,Nat.pow_add]
theorem pow_join {a b c d:Nat} (h:a+b=c+d):2 ^ a * 2 ^ b=2 ^ c * 2 ^ d:=by rw [<-Nat.pow_add,<-Nat.pow_add,h]
theorem lt_cancel {a b c:Nat} (h:a * c < b * c):a < b:=Nat.lt_of_mul_lt_mul_right h
theorem not_le_zero_pow {k:Nat} (h:2 ^ k<=0):False:=absurd h (Nat.not_le_of_gt (Nat.two_pow_pos k))
theorem ple {a b:Nat} (h:a<=b):2 ^ a<=2 ^ b:=Nat.pow_le_pow_right (by decide) h
theorem pow_le_pow2 {a b:Nat} (h:2 ^ a < 2 ^ b):a < b:=(Nat.pow_lt_pow_iff_right (by decide)).1 h
theorem pjoin {i u mo q:Nat} (h:i+u=mo+1+q):2 ^ i * 2 ^ u=2 * 2 ^ mo * 2 ^ q:=by
 rw [<-Nat.pow_add,show (2:Nat) * 2 ^ mo=2 ^ (mo+1) by rw [Nat.pow_succ,Nat.mul_comm],<-Nat.pow_add,h]
theorem nearest_ok {mag p:Nat} (h:mag * 2 ^ p < 2 ^ 2000):∃ R,Rd (double.nearest false mag ((p:Int) - 1074)) R/\Near R (mag * 2 ^ p):=by
 by_cases h0:mag=0
 ·subst h0
  refine ⟨0,?_,by rw [Nat.zero_mul]; exact near_refl 0⟩
  have:double.nearest false 0 ((p:Int) - 1074)=0 * 2 ^ 52+0:=by simp [Format.nearest,Format.word]
  rw [this]
  have:=read_rung (t:=0) (kept:=0) (by decide) (.inl rfl) (by decide)
  simpa using this
 have hl1:2 ^ mag.log2<=mag:=Nat.log2_self_le h0
 have hl2:mag < 2 ^ (mag.log2+1):=Nat.lt_log2_self
 generalize hlog:mag.log2=lg at *
 have hlp:lg+p < 2000:=by
  apply pow_le_pow2
  rw [Nat.pow_add]
  exact Nat.lt_of_le_of_lt (Nat.mul_le_mul_right _ hl1) h
 have hlast:max ((p:Int) - 1074+lg - 52) (-1074)=((p+lg - 52:Nat):Int) - 1074:=by omega
 have hnear:double.nearest false mag ((p:Int) - 1074)=min ((p+lg - 52) * 2 ^ 52+Toward.even.cut false (mag <<< (p - (p+lg - 52))) (p+lg - 52 - p)) (2047 * 2 ^ 52):=by
  unfold Format.nearest
  rw [if_neg h0]
  simp only [double_least,double_binade,double_inf,hlog]
  have hf:(double.fractionBits:Int)=52:=rfl
  rw [hf,hlast]
  have e1:((((p+lg - 52:Nat):Int) - 1074) - -1074).toNat=p+lg - 52:=by omega
  have e2:((p:Int) - 1074 - (((p+lg - 52:Nat):Int) - 1074)).toNat=p - (p+lg - 52):=by omega
  have e3:((((p+lg - 52:Nat):Int) - 1074) - ((p:Int) - 1074)).toNat=p+lg - 52 - p:=by omega
  rw [e1,e2,e3]
  simp [Format.word]
 rw [hnear]
 generalize ht:p+lg - 52=t
 by_cases hc:t<=p
 ·
  rw [show t - p=0 by omega,cut_zero,Nat.shiftLeft_eq]
  have hk1:mag * 2 ^ (p - t) < 2 ^ 53:=by
   have:mag * 2 ^ (p - t) < 2 ^ (lg+1) * 2 ^ (p - t):=Nat.mul_lt_mul_of_pos_right hl2 (Nat.two_pow_pos _)
   rw [<-Nat.pow_add] at this
   exact Nat.lt_of_lt_of_le this (Nat.pow_le_pow_right (by decide) (by omega))
  have hk2:t=0\/2 ^ 52<=mag * 2 ^ (p - t):=by
   by_cases h00:t=0
   ·exact .inl h00
   ·refine .inr ?_
    have:2 ^ lg * 2 ^ (p - t)<=mag * 2 ^ (p - t):=Nat.mul_le_mul_right _ hl1
    rw [<-Nat.pow_add] at this
    rwa [show lg+(p - t)=52 by omega] at this
  have hR:=read_rung (t:=t) (kept:=mag * 2 ^ (p - t)) (by omega) hk2 (by omega)
  rw [Nat.min_eq_left (by omega)]
  refine ⟨_,hR,?_⟩
  rw [Nat.mul_assoc,<-Nat.pow_add,show p - t+t=p by omega]
  exact near_refl _
 ·rw [show p - t=0 by omega,Nat.shiftLeft_zero,show t - p=lg - 52 by omega]
  have hlg:52 < lg:=by omega
  obtain ⟨c1,c2,c3,c4⟩:=cut_near (n:=mag) (d:=lg - 52) (by rw [hlog]; omega)
  generalize Toward.even.cut false mag (lg - 52)=kept at *
  have hq1:2 ^ 52<=mag / 2 ^ (lg - 52):=by
   rw [Nat.le_div_iff_mul_le (Nat.two_pow_pos _),<-Nat.pow_add,show 52+(lg - 52)=lg by omega]; exact hl1
  have hq2:mag / 2 ^ (lg - 52) < 2 ^ 53:=by
   rw [Nat.div_lt_iff_lt_mul (Nat.two_pow_pos _),<-Nat.pow_add,show 53+(lg - 52)=lg+1 by omega]; exact hl2
  have hR:=read_rung (t:=t) (kept:=kept) (by omega) (.inr (by omega)) (by omega)
  rw [Nat.min_eq_left (by omega)]
  refine ⟨_,hR,?_⟩
  rw [show t=(lg - 52)+p by omega,Nat.pow_add,<-Nat.mul_assoc]
  have hg:2 ^ 52 * 2 ^ (lg - 52)<=mag:=by rw [<-Nat.pow_add,show 52+(lg - 52)=lg by omega]; exact hl1
  generalize kept * 2 ^ (lg - 52)=K at *
  generalize 2 ^ (lg - 52)=g at *
  obtain ⟨d1,d2⟩:=lin1 c1 c2 hg
  constructor
  ·have:=Nat.mul_le_mul_right (2 ^ p) d1
   rw [Nat.add_mul] at this
   rw [Nat.mul_right_comm K,Nat.mul_right_comm mag]; exact this
  ·have:=Nat.mul_le_mul_right (2 ^ p) d2
   rw [Nat.add_mul] at this
   rw [Nat.mul_right_comm K,Nat.mul_right_comm mag]; exact this
theorem rd_of_int {n:Nat} (h:n < 2 ^ 900):∃ R,Rd (floatOfInt .f64 n) R/\Near R (n * UU):=by
 have h1:n * 2 ^ 1074 < 2 ^ 2000:=pmul_lt (a:=900) (b:=1074) (c:=2000) h (by omega)
 obtain ⟨R,h2,h3⟩:=nearest_ok (mag:=n) (p:=1074) h1
 refine ⟨R,?_,by rw [uu_def]; exact h3⟩
 have:floatOfInt .f64 n=double.nearest false n (((1074:Nat):Int) - 1074):=by
  have hd:decide ((n:Int) < 0)=false:=by simp
  simp [floatOfInt,FloatKind.nearest,FloatKind.encode,FloatKind.format,Format.write,hd]
 rw [this]; exact h2
theorem rd_add {x y R S:Nat} (hx:Rd x R) (hy:Rd y S) (h:R+S < 2 ^ 2000):∃ r T,double.add x y=some r/\Rd r T/\Near T (R+S):=by
 obtain ⟨m,i,h1,_,_,rfl⟩:=hx
 obtain ⟨n,j,h2,_,_,rfl⟩:=hy
 have hsum:double.add x y=some (double.nearest false (m * 2 ^ (i - min i j)+n * 2 ^ (j - min i j)) (((min i j:Nat):Int) - 1074)):=by
  unfold Format.add
  rw [h1,h2]
  have hb:min ((i:Int) - 1074) ((j:Int) - 1074)=((min i j:Nat):Int) - 1074:=by
   rcases Nat.le_total i j with h|h
   ·rw [Nat.min_eq_left h,Int.min_eq_left (by omega)]
   ·rw [Nat.min_eq_right h,Int.min_eq_right (by omega)]
  simp only [Datum.sum,hb,signed,Bool.false_eq_true,if_false,Nat.shiftLeft_eq,Bool.and_false,Option.map_some,Format.write]
  rw [show ((i:Int) - 1074 - (((min i j:Nat):Int) - 1074)).toNat=i - min i j by omega,show ((j:Int) - 1074 - (((min i j:Nat):Int) - 1074)).toNat=j - min i j by omega]
  have hn:((m * 2 ^ (i - min i j):Nat):Int)+((n * 2 ^ (j - min i j):Nat):Int)=((m * 2 ^ (i - min i j)+n * 2 ^ (j - min i j):Nat):Int):=by rw [Int.natCast_add]
  rw [hn]
  have hd:decide (((m * 2 ^ (i - min i j)+n * 2 ^ (j - min i j):Nat):Int) < 0)=false:=decide_eq_false (Int.not_lt.2 (Int.natCast_nonneg _))
  have hs:(if ((m * 2 ^ (i - min i j)+n * 2 ^ (j - min i j):Nat):Int)=0 then false else decide (((m * 2 ^ (i - min i j)+n * 2 ^ (j - min i j):Nat):Int) < 0))=false:=by
   split
   ·rfl
   ·exact hd
  rw [hs,Int.natAbs_natCast]
 have he:(m * 2 ^ (i - min i j)+n * 2 ^ (j - min i j)) * 2 ^ (min i j)=m * 2 ^ i+n * 2 ^ j:=by
  rw [Nat.add_mul,Nat.mul_assoc,Nat.mul_assoc,<-Nat.pow_add,<-Nat.pow_add,show i - min i j+min i j=i by omega,show j - min i j+min i j=j by omega]
 obtain ⟨T,h3,h4⟩:=nearest_ok (mag:=m * 2 ^ (i - min i j)+n * 2 ^ (j - min i j)) (p:=min i j) (by rw [he]; exact h)
 rw [he] at h4
 exact ⟨_,T,hsum,h3,h4⟩
theorem rd_zero_nearest (z:Int):Rd (double.nearest false 0 z) 0:=by
 have:double.nearest false 0 z=0 * 2 ^ 52+0:=by simp [Format.nearest,Format.word]
 rw [this]
 have:=read_rung (t:=0) (kept:=0) (by decide) (.inl rfl) (by decide)
 simpa using this
theorem big_k {m k:Nat} (h:m < 2 ^ 53) (h2:2 ^ 1000<=m * 2 ^ k):948<=k:=by
 have:2 ^ 1000 < 2 ^ (53+k):=by
  rw [Nat.pow_add]
  exact Nat.lt_of_le_of_lt h2 (Nat.mul_lt_mul_of_pos_right h (Nat.two_pow_pos _))
 have:=pow_le_pow2 this
 omega
theorem rd_mul {x y R S L:Nat} (hL:L=2 ^ 2000) (hx:Rd x R) (hy:Rd y S) (h1:R=0\/2 ^ 1000<=R) (h2:2 ^ 1000<=S) (h:R * S < L * UU):∃ r T N,double.mul x y=some r/\Rd r T/\Near T N/\N * UU=R * S:=by
 obtain ⟨m,i,e1,m1,_,rfl⟩:=hx
 obtain ⟨n,j,e2,m2,_,rfl⟩:=hy
 have hp:double.mul x y=some (double.nearest false (m * n) ((i:Int) - 1074+((j:Int) - 1074))):=by
  unfold Format.mul
  rw [e1,e2]
  simp [Datum.product,Format.write]
 rcases h1 with h1|h1
 ·have hm:m=0:=by
   rcases Nat.eq_zero_or_pos m with h|h
   ·exact h
   ·have:=Nat.mul_pos h (Nat.two_pow_pos i); omega
  subst hm
  refine ⟨_,0,0,hp,?_,near_refl 0,by simp⟩
  rw [Nat.zero_mul]; exact rd_zero_nearest _
 ·have k1:=big_k m1 h1
  have k2:=big_k m2 h2
  have hpl:(i:Int) - 1074+((j:Int) - 1074)=((i+j - 1074:Nat):Int) - 1074:=by omega
  have hN:m * n * 2 ^ (i+j - 1074) * UU=m * 2 ^ i * (n * 2 ^ j):=by
   rw [uu_def]
   rw [Nat.mul_assoc (m * n),pow_join (show i+j - 1074+1074=i+j by omega)]
   simp only [Nat.mul_assoc,Nat.mul_left_comm,Nat.mul_comm]
  have hlt:m * n * 2 ^ (i+j - 1074) < L:=by
   rw [<-hN] at h
   exact lt_cancel h
  rw [hL] at hlt
  obtain ⟨T,h3,h4⟩:=nearest_ok hlt
  rw [hpl] at hp
  exact ⟨_,T,_,hp,h3,h4,hN⟩
theorem rd_div {x y R S:Nat} (hx:Rd x R) (hy:Rd y S) (h1:R=0\/2 ^ 1000<=R) (h2:2 ^ 1000<=S) (hR:R < UU * 2 ^ 100) (hS:S < UU * 2 ^ 100):∃ r T N,double.div x y=some r/\Rd r T/\Near T N/\N * S * 2 ^ 53<=R * UU * 2 ^ 53+R * UU/\R * UU * 2 ^ 53<=N * S * 2 ^ 53+R * UU:=by
 obtain ⟨m,i,e1,m1,_,rfl⟩:=hx
 obtain ⟨n,j,e2,m2,_,rfl⟩:=hy
 have hn0:n ≠ 0:=by
  rintro rfl
  rw [Nat.zero_mul] at h2
  exact not_le_zero_pow h2
 have hp:double.div x y=some (double.nearest false (2 * (m <<< (54+n.log2 - m.log2) / n)+(m <<< (54+n.log2 - m.log2) % n != 0).toNat) ((i:Int) - 1074 - ((j:Int) - 1074) - ((54+n.log2 - m.log2:Nat):Int) - 1)):=by
  unfold Format.div
  rw [e1,e2]
  simp [Datum.quotient,Format.write,hn0]
  rfl
 rcases h1 with h1|h1
 ·have hm:m=0:=by
   rcases Nat.eq_zero_or_pos m with h|h
   ·exact h
   ·have:=Nat.mul_pos h (Nat.two_pow_pos i); omega
  subst hm
  refine ⟨_,0,0,hp,?_,near_refl 0,by simp,by simp⟩
  have:(2 * ((0:Nat) <<< (54+n.log2 - (0:Nat).log2) / n)+((0:Nat) <<< (54+n.log2 - (0:Nat).log2) % n != 0).toNat)=0:=by simp
  rw [this]; exact rd_zero_nearest _
 ·have hm0:m ≠ 0:=by
   rintro rfl
   rw [Nat.zero_mul] at h1
   exact not_le_zero_pow h1
  have k1:=big_k m1 h1
  have k2:=big_k m2 h2
  have k3:i < 1174:=by
   apply pow_le_pow2
   have:2 ^ i<=m * 2 ^ i:=Nat.le_mul_of_pos_left _ (by omega)
   have e:UU * 2 ^ 100=2 ^ 1174:=by rw [uu_def]; exact (pow_split (a:=1074) (b:=100) (c:=1174) rfl).symm
   omega
  have k4:j < 1174:=by
   apply pow_le_pow2
   have:2 ^ j<=n * 2 ^ j:=Nat.le_mul_of_pos_left _ (by omega)
   have e:UU * 2 ^ 100=2 ^ 1174:=by rw [uu_def]; exact (pow_split (a:=1074) (b:=100) (c:=1174) rfl).symm
   omega
  have lm1:=Nat.log2_self_le hm0
  have ln1:=Nat.log2_self_le hn0
  have lm2:m < 2 ^ (m.log2+1):=Nat.lt_log2_self
  have ln2:n < 2 ^ (n.log2+1):=Nat.lt_log2_self
  have b1:m.log2 < 53:=pow_le_pow2 (Nat.lt_of_le_of_lt lm1 m1)
  have b2:n.log2 < 53:=pow_le_pow2 (Nat.lt_of_le_of_lt ln1 m2)
  generalize m.log2=lm at *
  generalize n.log2=ln at *
  generalize hmo:54+ln - lm=mo at *
  have hD:m <<< mo=m * 2 ^ mo:=Nat.shiftLeft_eq ..
  rw [hD] at hp
  have hdm:=Nat.div_add_mod (m * 2 ^ mo) n
  have hml:=Nat.mod_lt (m * 2 ^ mo) (Nat.pos_of_ne_zero hn0)
  have hbig:2 ^ 53 * n<=m * 2 ^ mo:=by
   have e1:2 ^ lm * 2 ^ mo<=m * 2 ^ mo:=Nat.mul_le_mul_right _ lm1
   rw [<-Nat.pow_add,show lm+mo=53+(ln+1) by omega,Nat.pow_add] at e1
   exact Nat.le_trans (Nat.mul_le_mul_left _ (Nat.le_of_lt ln2)) e1
  have hsm:m * 2 ^ mo < 2 ^ 160:=by
   have e1:m * 2 ^ mo < 2 ^ (lm+1) * 2 ^ mo:=Nat.mul_lt_mul_of_pos_right lm2 (Nat.two_pow_pos _)
   rw [<-Nat.pow_add] at e1
   exact Nat.lt_of_lt_of_le e1 (Nat.pow_le_pow_right (by decide) (by omega))
  have hpl:(i:Int) - 1074 - ((j:Int) - 1074) - (mo:Int) - 1=((i+1073 - j - mo:Nat):Int) - 1074:=by omega
  generalize hp':i+1073 - j - mo=p at *
  rw [hpl] at hp
  generalize hmag:2 * (m * 2 ^ mo / n)+(m * 2 ^ mo % n != 0).toNat=mag at *
  have hmg:mag * n<=2 * (m * 2 ^ mo)+n/\2 * (m * 2 ^ mo)<=mag * n+n/\mag<=2 * (m * 2 ^ mo)+1:=by
   have hle:m * 2 ^ mo / n<=m * 2 ^ mo:=Nat.div_le_self ..
   generalize m * 2 ^ mo / n=q at *
   generalize m * 2 ^ mo % n=rr at *
   generalize m * 2 ^ mo=D at *
   rw [Nat.mul_comm n q] at hdm
   rw [<-hmag,Nat.add_mul,Nat.mul_assoc]
   by_cases h:rr=0
   ·subst h
    simp only [bne_self_eq_false,Bool.toNat_false,Nat.zero_mul]
    omega
   ·have:(rr != 0)=true:=by simp [h]
    rw [this,Bool.toNat_true,Nat.one_mul]
    omega
  have hov:mag * 2 ^ p < 2 ^ 2000:=by
   have e1:mag < 2 ^ 162:=by omega
   exact pmul_lt (a:=162) (b:=p) (c:=2000) e1 (by omega)
  obtain ⟨T,h3,h4⟩:=nearest_ok hov
  refine ⟨_,T,_,hp,h3,h4,?_⟩
  have hE:m * 2 ^ i * UU=2 * (m * 2 ^ mo) * 2 ^ (p+j):=by
   rw [uu_def]
   have:=pjoin (i:=i) (u:=1074) (mo:=mo) (q:=p+j) (by omega)
   rw [Nat.mul_assoc,this]
   simp only [Nat.mul_assoc,Nat.mul_left_comm,Nat.mul_comm]
  have hF:mag * 2 ^ p * (n * 2 ^ j)=mag * n * 2 ^ (p+j):=by
   rw [Nat.pow_add]
   simp only [Nat.mul_assoc,Nat.mul_left_comm,Nat.mul_comm]
  rw [hE,hF]
  obtain ⟨g1,g2,_⟩:=hmg
  generalize mag * n=M at *
  generalize m * 2 ^ mo=D at *
  generalize 2 ^ (p+j)=G at *
  obtain ⟨d1,d2⟩:=lin2 g1 g2 hbig
  constructor
  ·have:=Nat.mul_le_mul_right G d1
   rw [Nat.add_mul] at this
   rw [Nat.mul_right_comm M,Nat.mul_right_comm (2 * D)]; exact this
  ·have:=Nat.mul_le_mul_right G d2
   rw [Nat.add_mul] at this
   rw [Nat.mul_right_comm M,Nat.mul_right_comm (2 * D)]; exact this
theorem rd_toInt {x R:Nat} (hx:Rd x R):(double.read x).toInt .zero=some ((R / UU:Nat):Int):=by
 obtain ⟨m,k,h1,h2,h3,rfl⟩:=hx
 rw [h1]
 simp only [Datum.toInt,Datum.integral,signed,Bool.false_eq_true,if_false,Nat.shiftLeft_zero,Toward.cut]
 congr 2
 simp only [Bool.toNat_false,Nat.add_zero,Nat.shiftLeft_eq,Nat.one_mul]
 rw [uu_def]
 rcases Nat.lt_or_ge k 1074 with hk|hk
 ·rw [show ((k:Int) - 1074).toNat=0 by omega,show (-((k:Int) - 1074)).toNat=1074 - k by omega,Nat.pow_zero,Nat.mul_one]
  have he:m * 2 ^ k / 2 ^ 1074=m / 2 ^ (1074 - k):=by
   rw [show (1074:Nat)=k+(1074 - k) by omega,Nat.pow_add,<-Nat.div_div_eq_div_mul,Nat.mul_div_cancel _ (Nat.two_pow_pos _),show k+(1074 - k) - k=1074 - k by omega]
  rw [he]
  rcases Nat.le_total (1074 - k) (m.log2+2) with h|h
  ·rw [Nat.min_eq_left h]
  ·rw [Nat.min_eq_right h]
   have e1:m < 2 ^ (m.log2+2):=Nat.lt_of_lt_of_le Nat.lt_log2_self (Nat.pow_le_pow_right (by decide) (by omega))
   rw [Nat.div_eq_of_lt e1,Nat.div_eq_of_lt (Nat.lt_of_lt_of_le e1 (Nat.pow_le_pow_right (by decide) h))]
 ·rw [show (-((k:Int) - 1074)).toNat=0 by omega,show ((k:Int) - 1074).toNat=k - 1074 by omega,Nat.zero_min,Nat.pow_zero,Nat.div_one]
  rw [show k=(k - 1074)+1074 by omega,Nat.pow_add,<-Nat.mul_assoc,Nat.mul_div_cancel _ (Nat.two_pow_pos 1074),Nat.add_sub_cancel]
theorem pos_uu:0 < UU:=by rw [uu_def]; exact Nat.two_pow_pos 1074
theorem uu_eq:UU=GG * 2 ^ 74:=by rw [uu_def,gg_def]; exact pow_split (a:=1000) (b:=74) (c:=1074) rfl
theorem ll_eq:LL=UU * 2 ^ 120 * 2 ^ 806:=by
 rw [ll_def,uu_def,<-pow_split (a:=1074) (b:=120) (c:=1194) rfl]
 exact pow_split (a:=1194) (b:=806) (c:=2000) rfl
theorem rd_add' {x y R S:Nat} (hx:Rd x R) (hy:Rd y S) (h:R+S < LL):∃ r T,double.add x y=some r/\Rd r T/\Near T (R+S):=rd_add hx hy (by rw [ll_def] at h; exact h)
theorem rd_mul' {x y R S:Nat} (hx:Rd x R) (hy:Rd y S) (h1:R=0\/GG<=R) (h2:GG<=S) (h:R * S < LL * UU):∃ r T N,double.mul x y=some r/\Rd r T/\Near T N/\N * UU=R * S
 := rd_mul ll_def hx hy (by rw [gg_def] at h1; exact h1) (by rw [gg_def] at h2; exact h2) h
theorem rd_div' {x y R S:Nat} (hx:Rd x R) (hy:Rd y S) (h1:R=0\/GG<=R) (h2:GG<=S) (hR:R < UU * 2 ^ 100) (hS:S < UU * 2 ^ 100):∃ r T N,double.div x y=some r/\Rd r T/\Near T N/\N * S * 2 ^ 53<=R * UU * 2 ^ 53+R * UU/\R * UU * 2 ^ 53<=N * S * 2 ^ 53+R * UU:=rd_div hx hy (by rw [gg_def] at h1; exact h1) (by rw [gg_def] at h2; exact h2) hR hS
end Go.Proofs.YtffdhjnbppagjaaGreat.DW

namespace Go.Proofs.YtffdhjnbppagjaaGreat.DW
open Ieee
def Ap (c x V:Nat):Prop:=∃ R,Rd x R/\R * 2 ^ 60<=V * 2 ^ 60+c * V/\V * 2 ^ 60<=R * 2 ^ 60+c * V
theorem near_lin {T N V c:Nat} (h1:T * 2 ^ 53<=N * 2 ^ 53+N) (h2:N * 2 ^ 53<=T * 2 ^ 53+N) (h3:N * 2 ^ 60<=V * 2 ^ 60+c * V) (h4:V * 2 ^ 60<=N * 2 ^ 60+c * V) (hc:c<=2 ^ 50):T * 2 ^ 60<=V * 2 ^ 60+(c+129) * V/\V * 2 ^ 60<=T * 2 ^ 60+(c+129) * V:=by
 have hcv:c * V<=2 ^ 50 * V:=Nat.mul_le_mul_right _ hc
 rw [Nat.add_mul]
 generalize c * V=z at *
 omega
theorem ap_conv {n:Nat} (h:n < 2 ^ 900):Ap 128 (floatOfInt .f64 n) (n * UU):=by
 obtain ⟨R,h1,h2,h3⟩:=rd_of_int h
 refine ⟨R,h1,?_⟩
 clear h1 h
 generalize n * UU=V at *
 omega
theorem pow_tri (x:Nat) {a b c U:Nat} (hu:U=2 ^ c) (e:c=a+b):x * U=x * 2 ^ a * 2 ^ b:=by rw [hu,e,Nat.pow_add,Nat.mul_assoc]
theorem rd_base:Rd 4741671816366391296 (1000000000 * UU):=by
 refine ⟨1000000000 * 2 ^ 23,1051,by decide +kernel,by decide,by decide,?_⟩
 have e:=pow_tri 1000000000 (a:=23) (b:=1051) (c:=1074) uu_def rfl
 exact e
theorem lt_2000 {V:Nat} (h:V < UU * 2 ^ 120):4 * V < LL:=by
 rw [ll_eq]
 have h2:UU * 2 ^ 120 * 2 ^ 2<=UU * 2 ^ 120 * 2 ^ 806:=Nat.mul_le_mul_left _ (ple (a:=2) (b:=806) (by omega))
 refine Nat.lt_of_lt_of_le ?_ h2
 clear h2
 omega
theorem la {R V z:Nat} (h2:R * 2 ^ 60<=V * 2 ^ 60+z) (h3:V * 2 ^ 60<=R * 2 ^ 60+z) (hz:z<=2 ^ 50 * V):R<=2 * V/\V<=2 * R:=by omega
theorem lb {u g V R:Nat} (e1:u<=V) (e2:u=g * 2 ^ 74) (hb:V<=2 * R):g<=R:=by omega
theorem lc {u g:Nat} (e2:u=g * 2 ^ 74):g<=1000000000 * u:=by omega
theorem ld {R V u:Nat} (hb:R<=2 * V) (e1:V<=2 ^ 80 * u) (h:0 < u):R * 1000000000 < u * 2 ^ 120:=by omega
theorem le4 {a b:Nat} (h:4 * a < b):a < b:=by omega
theorem lf {R V z:Nat} (h2:R * 2 ^ 60<=V * 2 ^ 60+z):R * 1000000000 * 2 ^ 60<=V * 1000000000 * 2 ^ 60+z * 1000000000:=by
 have:=Nat.mul_le_mul_right 1000000000 h2
 rw [Nat.add_mul] at this
 rw [Nat.mul_right_comm R,Nat.mul_right_comm V]
 exact this
theorem lg {R S V W u:Nat} (h2:R<=2 * V) (h3:S<=2 * W) (e1:V<=2 ^ 110 * u) (e2:W<=2 ^ 110 * u) (h:0 < u):R+S < u * 2 ^ 120:=by omega
theorem lh {R S V W x y z:Nat} (h1:R * 2 ^ 60<=V * 2 ^ 60+x) (h2:S * 2 ^ 60<=W * 2 ^ 60+y) (h3:y<=z):(R+S) * 2 ^ 60<=(V+W) * 2 ^ 60+(x+z):=by
 have:=Nat.add_le_add h1 (Nat.le_trans h2 (Nat.add_le_add_left h3 _))
 rw [Nat.add_add_add_comm] at this
 rw [Nat.add_mul,Nat.add_mul]
 exact this
theorem li {R V z u:Nat} (h2:R<=2 * V) (e1:V<=2 ^ 95 * u) (h:0 < u):R < u * 2 ^ 100:=by omega
theorem ap_nz {v R:Nat} (hb:R<=2 * (v * UU)/\v * UU<=2 * R):R=0\/GG<=R:=by
 by_cases hv0:v=0
 ·subst hv0
  rw [Nat.zero_mul] at hb
  exact .inl (Nat.le_zero.1 hb.1)
 ·exact .inr (lb (Nat.le_mul_of_pos_left _ (Nat.pos_of_ne_zero hv0)) uu_eq hb.2)
theorem ap_mul {c x v:Nat} (hc:c<=2 ^ 50) (h:Ap c x (v * UU)) (hv:v < 2 ^ 80):∃ r,floatBits .mul .f64 x 4741671816366391296=some r/\Ap (c+129) r (v * 1000000000 * UU):=by
 obtain ⟨R,h1,h2,h3⟩:=h
 have hb:=la h2 h3 (Nat.mul_le_mul_right _ hc)
 have hlt:R * (1000000000 * UU) < LL * UU:=by
  rw [<-Nat.mul_assoc]
  exact Nat.mul_lt_mul_of_pos_right (le4 (lt_2000 (ld hb.1 (Nat.mul_le_mul_right _ (Nat.le_of_lt hv)) pos_uu))) pos_uu
 obtain ⟨r,T,N,e1,e2,⟨e3,e4⟩,e5⟩:=rd_mul' h1 rd_base (ap_nz hb) (lc uu_eq) hlt
 refine ⟨r,e1,T,e2,?_⟩
 have hN:N=R * 1000000000:=by
  rw [<-Nat.mul_assoc] at e5
  exact Nat.eq_of_mul_eq_mul_right pos_uu e5
 rw [hN] at e3 e4
 have hV:v * 1000000000 * UU=v * UU * 1000000000:=Nat.mul_right_comm ..
 rw [hV]
 have d1:=lf h2
 have d2:=lf h3
 rw [Nat.mul_assoc c] at d1 d2
 exact near_lin e3 e4 d1 d2 hc
theorem ap_add {c x v d y w:Nat} (hc:c<=2 ^ 50) (hdc:d<=c) (h:Ap c x (v * UU)) (h':Ap d y (w * UU)) (hv:v < 2 ^ 110) (hw:w < 2 ^ 110):∃ r,floatBits .add .f64 x y=some r/\Ap (c+129) r ((v+w) * UU):=by
 obtain ⟨R,h1,h2,h3⟩:=h
 obtain ⟨S,g1,g2,g3⟩:=h'
 have hb:=la h2 h3 (Nat.mul_le_mul_right _ hc)
 have hb':=la g2 g3 (Nat.mul_le_mul_right _ (Nat.le_trans hdc hc))
 have hlt:R+S < LL:=le4 (lt_2000 (lg hb.1 hb'.1 (Nat.mul_le_mul_right _ (Nat.le_of_lt hv)) (Nat.mul_le_mul_right _ (Nat.le_of_lt hw)) pos_uu))
 obtain ⟨r,T,e1,e2,e3,e4⟩:=rd_add' h1 g1 hlt
 refine ⟨r,e1,T,e2,?_⟩
 have hdw:d * (w * UU)<=c * (w * UU):=Nat.mul_le_mul_right _ hdc
 have d1:=lh h2 g2 hdw
 have d2:=lh h3 g3 hdw
 rw [<-Nat.mul_add] at d1 d2
 rw [Nat.add_mul v w]
 exact near_lin e3 e4 d1 d2 hc
theorem chain_up {T N S R V W U p q s t u:Nat} (h1:T * p<=N * q) (h2:N * S * p<=R * U * q) (h3:R * s<=V * t) (h4:W * u<=S * s):T * W * (p * p * s * u)<=V * U * (q * q * t * s):=by
 have a1:=Nat.mul_le_mul h1 h4
 have a2:=Nat.mul_le_mul_right (q * s) h2
 have a3:=Nat.mul_le_mul_right (U * q * q * s) h3
 have b1:T * p * (W * u) * (p * s)<=N * q * (S * s) * (p * s):=Nat.mul_le_mul_right _ a1
 have b2:N * S * p * (q * s) * s<=R * U * q * (q * s) * s:=Nat.mul_le_mul_right _ a2
 have e1:T * W * (p * p * s * u)=T * p * (W * u) * (p * s):=by ac_rfl
 have e2:N * q * (S * s) * (p * s)=N * S * p * (q * s) * s:=by ac_rfl
 have e3:R * U * q * (q * s) * s=R * s * (U * q * q * s):=by ac_rfl
 have e4:V * t * (U * q * q * s)=V * U * (q * q * t * s):=by ac_rfl
 rw [e1,<-e4]
 rw [e2] at b1
 rw [e3] at b2
 exact Nat.le_trans b1 (Nat.le_trans b2 a3)
theorem chain_dn {T N S R V W U p q s t u:Nat} (h1:N * q<=T * p) (h2:R * U * q<=N * S * p) (h3:V * t<=R * s) (h4:S * s<=W * u):V * U * (t * q * q)<=T * W * (p * p * u):=by
 have b1:V * t * (U * q)<=R * s * (U * q):=Nat.mul_le_mul_right _ h3
 have b2:R * U * q * (s * q)<=N * S * p * (s * q):=Nat.mul_le_mul_right _ h2
 have b3:N * q * (S * s)<=T * p * (W * u):=Nat.mul_le_mul h1 h4
 have g1:V * U * (t * q * q)=V * t * (U * q) * q:=by ac_rfl
 have g2:R * s * (U * q) * q=R * U * q * (s * q):=by ac_rfl
 have g3:N * S * p * (s * q)=N * q * (S * s) * p:=by ac_rfl
 have g4:T * W * (p * p * u)=T * p * (W * u) * p:=by ac_rfl
 rw [g1,g4]
 refine Nat.le_trans (Nat.mul_le_mul_right _ b1) ?_
 rw [g2]
 refine Nat.le_trans b2 ?_
 rw [g3]
 exact Nat.mul_le_mul_right _ b3
theorem cancel_up {X Y w U k l:Nat} (hU:0 < U) (h:X * (w * U) * k<=Y * U * U * l):X * w * k<=Y * U * l:=by
 have b1:X * w * k * U=X * (w * U) * k:=by ac_rfl
 have b2:Y * U * l * U=Y * U * U * l:=by ac_rfl
 exact Nat.le_of_mul_le_mul_right (by rw [b1,b2]; exact h) hU
theorem cancel_dn {X Y w U k l:Nat} (hU:0 < U) (h:Y * U * U * k<=X * (w * U) * l):Y * U * k<=X * w * l:=by
 have b1:X * w * l * U=X * (w * U) * l:=by ac_rfl
 have b2:Y * U * k * U=Y * U * U * k:=by ac_rfl
 exact Nat.le_of_mul_le_mul_right (by rw [b1,b2]; exact h) hU
theorem chain_end {X Y k l:Nat} (h:X * k<=Y * l) (hk:0 < k) (hl:l * 2 ^ 40<=k * (2 ^ 40+1)):X * 2 ^ 40<=Y * (2 ^ 40+1):=by
 have h1:X * k * 2 ^ 40<=Y * l * 2 ^ 40:=Nat.mul_le_mul_right _ h
 have h2:Y * (l * 2 ^ 40)<=Y * (k * (2 ^ 40+1)):=Nat.mul_le_mul_left _ hl
 rw [<-Nat.mul_assoc] at h2
 have h3:X * 2 ^ 40 * k<=Y * (2 ^ 40+1) * k:=by
  rw [Nat.mul_right_comm X,Nat.mul_assoc Y,Nat.mul_comm (2 ^ 40+1) k]
  exact Nat.le_trans h1 h2
 exact Nat.le_of_mul_le_mul_right h3 hk
theorem lj {T N:Nat} (h:T * 2 ^ 53<=N * 2 ^ 53+N):T * 2 ^ 53<=N * (2 ^ 53+1):=by omega
theorem lk {T N:Nat} (h:N * 2 ^ 53<=T * 2 ^ 53+N):N * (2 ^ 53 - 1)<=T * 2 ^ 53:=by
 rw [Nat.mul_sub,Nat.mul_one]; exact Nat.sub_le_iff_le_add.2 h
theorem ll1 {R V:Nat} (h:R * 2 ^ 60<=V * 2 ^ 60+1024 * V):R * 2 ^ 60<=V * (2 ^ 60+1024):=by
 rw [Nat.mul_add,Nat.mul_comm V 1024]; exact h
theorem ll2 {R V:Nat} (h:V * 2 ^ 60<=R * 2 ^ 60+1024 * V):V * (2 ^ 60 - 1024)<=R * 2 ^ 60:=by
 rw [Nat.mul_sub,Nat.mul_comm V 1024]; exact Nat.sub_le_iff_le_add.2 h
theorem ap_div {x v y w:Nat} (h:Ap 1024 x (v * UU)) (h':Ap 1024 y (w * UU)) (hv:v < 2 ^ 95) (hw:w < 2 ^ 95) (hw0:0 < w):∃ r T,floatBits .quo .f64 x y=some r/\Rd r T/\T * w * 2 ^ 40<=v * UU * (2 ^ 40+1)/\v * UU * 2 ^ 40<=T * w * (2 ^ 40+1):=by
 obtain ⟨R,h1,h2,h3⟩:=h
 obtain ⟨S,g1,g2,g3⟩:=h'
 have hb:=la h2 h3 (Nat.mul_le_mul_right _ (by decide))
 have hb':=la g2 g3 (Nat.mul_le_mul_right _ (by decide))
 have hS:GG<=S:=lb (Nat.le_mul_of_pos_left _ hw0) uu_eq hb'.2
 have hR2:R < UU * 2 ^ 100:=li (z:=0) hb.1 (Nat.mul_le_mul_right _ (Nat.le_of_lt hv)) pos_uu
 have hS2:S < UU * 2 ^ 100:=li (z:=0) hb'.1 (Nat.mul_le_mul_right _ (Nat.le_of_lt hw)) pos_uu
 obtain ⟨r,T,N,e1,e2,⟨e3,e4⟩,e5,e6⟩:=rd_div' h1 g1 (ap_nz hb) hS hR2 hS2
 refine ⟨r,T,e1,e2,?_⟩
 constructor
 ·exact cancel_up pos_uu (chain_end (chain_up (lj e3) (lj e5) (ll1 h2) (ll2 g3)) (by decide) (by decide))
 ·exact cancel_dn pos_uu (chain_end (chain_dn (lk e4) (lk e6) (ll2 h3) (ll1 g2)) (by decide) (by decide))
theorem g_up {g T u X Y q:Nat} (hu:0 < u) (hg:g * u<=T) (h:T * Y * 2 ^ 40<=X * u * (2 ^ 40+1)) (hX:X<=2 ^ 31 * Y) (hq:X < (q+2) * Y):g < q+3:=by
 have h1:g * Y * 2 ^ 40 * u<=X * (2 ^ 40+1) * u:=by
  have e1:g * Y * 2 ^ 40 * u=g * u * (Y * 2 ^ 40):=by ac_rfl
  have e2:X * (2 ^ 40+1) * u=X * u * (2 ^ 40+1):=by ac_rfl
  rw [e1,e2]
  refine Nat.le_trans (Nat.mul_le_mul_right _ hg) ?_
  rw [<-Nat.mul_assoc]; exact h
 have h2:=Nat.le_of_mul_le_mul_right h1 hu
 rw [Nat.mul_add,Nat.mul_one] at h2
 have h3:g * Y<=X+Y:=by omega
 have h4:g * Y < (q+3) * Y:=by rw [show q+3=(q+2)+1 by omega,Nat.add_mul (q+2),Nat.one_mul]; omega
 exact Nat.lt_of_mul_lt_mul_right h4
theorem g_dn {g T u X Y q:Nat} (hu:0 < u) (hY:0 < Y) (hg:T<=(g+1) * u) (h:X * u * 2 ^ 40<=T * Y * (2 ^ 40+1)) (hq:q * Y<=X) (hq2:q < 2 ^ 31):q<=g+1:=by
 have h1:X * 2 ^ 40 * u<=(g+1) * Y * (2 ^ 40+1) * u:=by
  have e1:X * 2 ^ 40 * u=X * u * 2 ^ 40:=by ac_rfl
  have e2:(g+1) * Y * (2 ^ 40+1) * u=(g+1) * u * (Y * (2 ^ 40+1)):=by ac_rfl
  rw [e1,e2]
  refine Nat.le_trans h ?_
  rw [Nat.mul_assoc]
  exact Nat.mul_le_mul_right _ hg
 have h2:=Nat.le_of_mul_le_mul_right h1 hu
 have h3:q * 2 ^ 40 * Y<=(g+1) * (2 ^ 40+1) * Y:=by
  have e1:q * 2 ^ 40 * Y=q * Y * 2 ^ 40:=by ac_rfl
  have e2:(g+1) * (2 ^ 40+1) * Y=(g+1) * Y * (2 ^ 40+1):=by ac_rfl
  rw [e1,e2]
  exact Nat.le_trans (Nat.mul_le_mul_right _ hq) h2
 have h4:=Nat.le_of_mul_le_mul_right h3 hY
 rw [Nat.mul_add,Nat.mul_one] at h4
 omega
theorem top3 {a L:Nat} (h:a < pw (L+3)):a / pw L=(dg a (L+2) * 1000000000+dg a (L+1)) * 1000000000+dg a L:=by
 have h1:=div_pw_succ a L
 have h2:a / pw (L+1)=1000000000 * (a / pw (L+2))+dg a (L+1):=div_pw_succ a (L+1)
 have h3:dg a (L+2)=a / pw (L+2):=dg_top h
 omega
theorem top2 {b L:Nat} (h:b < pw (L+2)):b / pw L=dg b (L+1) * 1000000000+dg b L:=by
 have h1:=div_pw_succ b L
 have h3:dg b (L+1)=b / pw (L+1):=dg_top h
 omega
theorem quo_bounds {a b P X Y:Nat} (hP:0 < P) (hX:a / P=X) (hY:b / P=Y) (hb:1000000000<=Y) (hab:a < b * 1000000000):X<=2 ^ 31 * Y/\X < (a / b+2) * Y/\a / b * Y<=X/\a / b < 1000000000:=by
 have ha1:X * P<=a:=hX ▸ Nat.div_mul_le_self a P
 have ha2:a < (X+1) * P:=by rw [<-hX]; exact Nat.lt_mul_of_div_lt (Nat.lt_succ_self _) hP
 have hb1:Y * P<=b:=hY ▸ Nat.div_mul_le_self b P
 have hb2:b < (Y+1) * P:=by rw [<-hY]; exact Nat.lt_mul_of_div_lt (Nat.lt_succ_self _) hP
 have hb0:0 < b:=by
  have:0 < Y * P:=Nat.mul_pos (by omega) hP
  omega
 have hq:a / b < 1000000000:=by rw [Nat.div_lt_iff_lt_mul hb0,Nat.mul_comm]; exact hab
 have hq1:a / b * b<=a:=Nat.div_mul_le_self a b
 have hq2:a < (a / b+1) * b:=Nat.lt_mul_of_div_lt (Nat.lt_succ_self _) hb0
 generalize a / b=q at *
 refine ⟨?_,?_,?_,hq⟩
 ·have h1:X * P < (Y+1) * 1000000000 * P:=by
   have e:(Y+1) * 1000000000 * P=(Y+1) * P * 1000000000:=by ac_rfl
   rw [e]
   exact Nat.lt_of_le_of_lt ha1 (Nat.lt_trans hab (Nat.mul_lt_mul_of_pos_right hb2 (by decide)))
  have h2:=Nat.lt_of_mul_lt_mul_right h1
  omega
 ·have h1:X * P < (q+1) * (Y+1) * P:=by
   rw [Nat.mul_assoc]
   exact Nat.lt_of_le_of_lt ha1 (Nat.lt_of_lt_of_le hq2 (Nat.mul_le_mul_left _ (Nat.le_of_lt hb2)))
  have h2:=Nat.lt_of_mul_lt_mul_right h1
  have e1:(q+1) * (Y+1)=(q+1) * Y+(q+1):=by rw [Nat.mul_add,Nat.mul_one]
  have e2:(q+2) * Y=(q+1) * Y+Y:=by rw [show q+2=(q+1)+1 by omega,Nat.add_mul (q+1),Nat.one_mul]
  omega
 ·have h1:q * Y * P < (X+1) * P:=by
   rw [Nat.mul_assoc]
   exact Nat.lt_of_le_of_lt (Nat.le_trans (Nat.mul_le_mul_left _ hb1) hq1) ha2
  have h2:=Nat.lt_of_mul_lt_mul_right h1
  omega
theorem ap_up {c d x V:Nat} (h:Ap c x V) (hcd:c<=d):Ap d x V:=by
 obtain ⟨R,h1,h2,h3⟩:=h
 have:=Nat.mul_le_mul_right V hcd
 exact ⟨R,h1,Nat.le_trans h2 (Nat.add_le_add_left this _),Nat.le_trans h3 (Nat.add_le_add_left this _)⟩
theorem lt900 {n:Nat} (h:n < 1000000000):n < 2 ^ 900:=Nat.lt_of_lt_of_le (Nat.lt_trans h (by decide:1000000000 < 2 ^ 30)) (ple (a:=30) (b:=900) (by omega))
theorem b80 {n:Nat} (h:n < 1000000000000000000):n < 2 ^ 80:=Nat.lt_of_lt_of_le h (by decide)
theorem b110 {n:Nat} (h:n < 1000000000000000000000000000):n < 2 ^ 110:=Nat.lt_of_lt_of_le h (by decide)
theorem b95 {n:Nat} (h:n < 1000000000000000000000000000):n < 2 ^ 95:=Nat.lt_of_lt_of_le h (by decide)
theorem b31 {n:Nat} (h:n < 1000000000):n < 2 ^ 31:=Nat.lt_of_lt_of_le h (by decide)
theorem guess_ok {a b L:Nat} (hb:nl b=L+2) (hab:a < b * 1000000000):∃ m2 m2' m1 s1 tp n1 bt q:Nat,∃ g:Nat,
  floatBits .mul .f64 (floatOfInt .f64 (dg a (L+2):Nat)) 4741671816366391296=some m2/\floatBits .mul .f64 m2 4741671816366391296=some m2' ∧
  floatBits .mul .f64 (floatOfInt .f64 (dg a (L+1):Nat)) 4741671816366391296=some m1/\floatBits .add .f64 m2' m1=some s1/\floatBits .add .f64 s1 (floatOfInt .f64 (dg a L:Nat))=some tp ∧
  floatBits .mul .f64 (floatOfInt .f64 (dg b (L+1):Nat)) 4741671816366391296=some n1/\floatBits .add .f64 n1 (floatOfInt .f64 (dg b L:Nat))=some bt ∧
  floatBits .quo .f64 tp bt=some q/\floatToIntVal .f64 q .i64=some (g:Int)/\g<=a / b+3/\a / b<=g+3/\g<=2000000000:=by
 have hlt:=lt_nl b
 rw [hb] at hlt
 have ha3:a < pw (L+3):=by
  have:b * 1000000000 < pw (L+2) * 1000000000:=Nat.mul_lt_mul_of_pos_right hlt (by decide)
  rw [Nat.mul_comm (pw (L+2)),<-pw_succ] at this
  exact Nat.lt_trans hab this
 have hb1:pw (L+1)<=b:=lt_nl_iff.1 (by omega)
 have d2:=dg_lt a (L+2)
 have d1:=dg_lt a (L+1)
 have d0:=dg_lt a L
 have c1:=dg_lt b (L+1)
 have c0:=dg_lt b L
 have hy1:1<=dg b (L+1):=by
  rw [dg_top hlt]
  exact Nat.div_pos hb1 (pw_pos _)
 have hX:=top3 ha3
 have hY:=top2 hlt
 have hq:=quo_bounds (pw_pos L) hX hY (by omega) hab
 clear hX hY hb1 ha3 hlt hab hb
 revert hq
 generalize dg a (L+2)=x2 at *
 generalize dg a (L+1)=x1 at *
 generalize dg a L=x0 at *
 generalize dg b (L+1)=y1 at *
 generalize dg b L=y0 at *
 obtain ⟨m2,e1,p1⟩:=ap_mul (by decide) (ap_conv (lt900 d2)) (b80 (by omega))
 obtain ⟨m2',e2,p2⟩:=ap_mul (by decide) p1 (b80 (by omega))
 obtain ⟨m1,e3,p3⟩:=ap_mul (by decide) (ap_conv (lt900 d1)) (b80 (by omega))
 obtain ⟨s1,e4,p4⟩:=ap_add (by decide) (by decide) p2 p3 (b110 (by omega)) (b110 (by omega))
 obtain ⟨tp,e5,p5⟩:=ap_add (by decide) (by decide) p4 (ap_conv (lt900 d0)) (b110 (by omega)) (b110 (by omega))
 obtain ⟨n1,e6,p6⟩:=ap_mul (by decide) (ap_conv (lt900 c1)) (b80 (by omega))
 obtain ⟨bt,e7,p7⟩:=ap_add (by decide) (by decide) p6 (ap_conv (lt900 c0)) (b110 (by omega)) (b110 (by omega))
 have hXe:x2 * 1000000000 * 1000000000+x1 * 1000000000+x0=(x2 * 1000000000+x1) * 1000000000+x0:=by rw [Nat.add_mul]
 rw [hXe] at p5
 obtain ⟨q,T,e8,p8,t1,t2⟩:=ap_div (ap_up p5 (by decide)) (ap_up p7 (by decide)) (b95 (by omega)) (b95 (by omega)) (by omega)
 rintro ⟨k1,k2,k3,k4⟩
 have hT1:T / UU * UU<=T:=Nat.div_mul_le_self T UU
 have hT2:T<=(T / UU+1) * UU:=Nat.le_of_lt (Nat.lt_mul_of_div_lt (Nat.lt_succ_self _) pos_uu)
 have g1:=g_up pos_uu hT1 t1 k1 k2
 have g2:=g_dn pos_uu (by omega) hT2 t2 k3 (b31 k4)
 generalize a / b=qq at *
 refine ⟨m2,m2',m1,s1,tp,n1,bt,q,T / UU,e1,e2,e3,e4,e5,e6,e7,e8,?_,by omega,by omega,by omega⟩
 unfold floatToIntVal
 have:=rd_toInt p8
 have hd:FloatKind.f64.decode q=double.read q:=rfl
 rw [hd,this]
 simp only
 rw [if_pos]
 have e1:IntKind.i64.min=-9223372036854775808:=by decide
 have e2:IntKind.i64.max=9223372036854775807:=by decide
 rw [e1,e2]
 generalize T / UU=gg at *
 omega
end Go.Proofs.YtffdhjnbppagjaaGreat.DW

namespace Go.Proofs.YtffdhjnbppagjaaGreat.DW
open Go.RowKit
attribute [go_sem] cmpL_nat List.headD_cons Tryz.underlying301
theorem cmpN_le {a b:Nat}:cmpN a b<=0 ↔ a<=b:=by unfold cmpN; split<;>(try split)<;>omega
theorem cmpN_lt {a b:Nat}:cmpN a b < 0 ↔ a < b:=by unfold cmpN; split<;>(try split)<;>omega
theorem cmpN_ge {a b:Nat}:0<=cmpN a b ↔ b<=a:=by unfold cmpN; split<;>(try split)<;>omega
theorem nl_small {n:Nat} (h:n < 1000000000):nl n<=1:=nl_iff.2 h
theorem bin_mid {a b q m:Nat} (hb:0 < b) (hq:a / b=q):b * m<=a ↔ m<=q:=by
 rw [<-hq,Nat.le_div_iff_mul_le hb,Nat.mul_comm]
theorem div_lt9 {a b:Nat} (h:a < b * 1000000000):a / b < 1000000000:=by
 rcases Nat.eq_zero_or_pos b with rfl|hb
 ·simp at h
 ·rw [Nat.div_lt_iff_lt_mul hb,Nat.mul_comm]; exact h
theorem l02Digit_fn (a b:Nat) (hb:0 < b) (ha:nl a<=50000) (hb2:nl b<=50000) (hab:a < b * 1000000000):Fn Tryz.prog 344 [⟨tInts,natL a⟩,⟨tInts,natL b⟩] false [⟨.int,((a / b:Nat):Int)⟩]:=by
 have hq9:=div_lt9 hab
 generalize hq:a / b=q at *
 refine fn_enter tabOK mixes Tryz.func344 rfl rfl _ Tryz.ntmps344 _ Tryz.results344 (by simp) fun hwf=>?_
 try simp (maxSteps:=9^9) only[go_sem]
 refine LoopG.intro _ _ _ (fun x:Int × Int=>⟨[(0,.sl .int (natL a)),(1,.sl .int (natL b)),(5,.sc (.int .i64 x.1)),(6,.sc (.int .i64 x.2))],[]⟩) (fun x=>0<=x.1/\x.2<=999999999/\x.1<=q/\q<=x.2) (fun x=>(x.2 - x.1).toNat) (0,999999999) ?_ ⟨by simp,by simp,by simp,by simp only; omega⟩ ?_
 ·refine Wk.mk [] ?_
  try simp (maxSteps:=9^9) only[go_sem]
  try (and_intros<;>first|rfl|omega|exact ⟨_,rfl⟩)
 ·rintro ⟨lo,hi⟩ ⟨h1,h2,h3,h4⟩
  simp only at h1 h2 h3 h4
  try simp (maxSteps:=9^9) only[go_sem]
  refine CondW_dec (fun hA=>?_) (fun hA=>?_)
  ·try simp (maxSteps:=9^9) only[go_sem]
   repeat refine And.intro (by first|omega|(constructor<;>omega)|kernel_rfl) ?_
   refine QuoW.pos (by omega) (by omega) ?_
   obtain ⟨m,hm⟩:∃ m:Nat,(lo+hi+1) / 2=m:=⟨((lo+hi+1) / 2).toNat,by omega⟩
   rw [hm]
   try simp (maxSteps:=9^9) only[go_sem]
   repeat refine And.intro (by first|omega|(constructor<;>omega)|kernel_rfl) ?_
   refine CallW.mk (specNatOf_fn m) ?_
   try simp (maxSteps:=9^9) only[go_sem]
   repeat refine And.intro (by first|omega|(constructor<;>omega)|kernel_rfl) ?_
   refine CallW.mk (l02Mul_fn b m (by omega) (Nat.le_trans (nl_small (by omega)) (by omega))) ?_
   try simp (maxSteps:=9^9) only[go_sem]
   repeat refine And.intro (by first|omega|(constructor<;>omega)|kernel_rfl) ?_
   refine CallW.mk (l02Cmp_fn (natL (b * m)) (natL a)) ?_
   try simp (maxSteps:=9^9) only[go_sem]
   refine CondW_dec (fun hB=>?_) (fun hB=>?_)
   ·rw [cmpN_le,bin_mid hb hq] at hB
    try simp (maxSteps:=9^9) only[go_sem]
    refine LoopK.mk (m,hi) ?_ ⟨by simp only; omega,by simp only; omega,by simp only; omega,by simp only; omega⟩ (by simp only; omega)
    refine Wk.mk [] ?_
    try simp (maxSteps:=9^9) only[go_sem]
    try (and_intros<;>first|rfl|omega|exact ⟨_,rfl⟩)
   ·rw [cmpN_le,bin_mid hb hq] at hB
    try simp (maxSteps:=9^9) only[go_sem]
    repeat refine And.intro (by first|omega|(constructor<;>omega)|kernel_rfl) ?_
    refine LoopK.mk (lo,m - 1) ?_ ⟨by simp only; omega,by simp only; omega,by simp only; omega,by simp only; omega⟩ (by simp only; omega)
    refine Wk.mk [] ?_
    try simp (maxSteps:=9^9) only[go_sem]
    try (and_intros<;>first|rfl|omega|exact ⟨_,rfl⟩)
  ·try simp (maxSteps:=9^9) only[go_sem]
   omega
theorem digit_fn (a b:Nat) (hb:2<=nl b) (ha:nl a<=50000) (hb2:nl b<=50000) (hab:a < b * 1000000000):Fn Tryz.prog 292 [⟨tInts,natL a⟩,⟨tInts,natL b⟩] false [⟨.int,((a / b:Nat):Int)⟩]:=by
 obtain ⟨L,hL⟩:∃ L,nl b=L+2:=⟨nl b - 2,by omega⟩
 have hb0:0 < b:=Nat.pos_of_ne_zero fun h=>by rw [h,nl_zero] at hb; omega
 have hguess:=guess_ok hL hab
 rw [show L+2=nl b by omega,show L+1=((nl b:Int) - 1).toNat by omega,show L=((nl b:Int) - 2).toNat by omega] at hguess
 obtain ⟨m2,m2',m1,s1,tp,n1,bt,q',g,e1,e2,e3,e4,e5,e6,e7,e8,e9,g1,g2,g3⟩:=hguess
 clear hL
 have hq9:=div_lt9 hab
 generalize hq:a / b=q at *
 have hla:nl a<=nl b+1:=by
  rw [nl_iff,pw_succ]
  have:=lt_nl b
  omega
 have hA:(nl a:Int)<=nl b+1:=by omega
 refine fn_enter tabOK mixes Tryz.func292 rfl rfl _ Tryz.ntmps292 _ Tryz.results292 (by simp) fun hwf=>?_
 try simp (maxSteps:=9^9) only[go_sem,hA]
 repeat refine And.intro (by first|omega|(constructor<;>omega)|kernel_rfl) ?_
 refine CallW.mk (limb_fn (natL a) (nl b) (by omega)) ?_
 try simp (maxSteps:=9^9) only[go_sem]
 refine FloW.mk _ e1 ?_
 try simp (maxSteps:=9^9) only[go_sem]
 refine FloW.mk _ e2 ?_
 try simp (maxSteps:=9^9) only[go_sem]
 repeat refine And.intro (by first|omega|(constructor<;>omega)|kernel_rfl) ?_
 refine CallW.mk (limb_fn (natL a) ((nl b:Int) - 1) (by omega)) ?_
 try simp (maxSteps:=9^9) only[go_sem]
 refine FloW.mk _ e3 ?_
 try simp (maxSteps:=9^9) only[go_sem]
 refine FloW.mk _ e4 ?_
 try simp (maxSteps:=9^9) only[go_sem]
 repeat refine And.intro (by first|omega|(constructor<;>omega)|kernel_rfl) ?_
 refine CallW.mk (limb_fn (natL a) ((nl b:Int) - 2) (by omega)) ?_
 try simp (maxSteps:=9^9) only[go_sem]
 refine FloW.mk _ e5 ?_
 try simp (maxSteps:=9^9) only[go_sem]
 repeat refine And.intro (by first|omega|(constructor<;>omega)|kernel_rfl) ?_
 refine FloW.mk _ e6 ?_
 try simp (maxSteps:=9^9) only[go_sem]
 repeat refine And.intro (by first|omega|(constructor<;>omega)|kernel_rfl) ?_
 refine FloW.mk _ e7 ?_
 try simp (maxSteps:=9^9) only[go_sem]
 repeat refine And.intro (by first|omega|(constructor<;>omega)|kernel_rfl) ?_
 refine FloW.mk _ e8 ?_
 try simp (maxSteps:=9^9) only[go_sem]
 refine FtiW.mk _ e9 (by constructor<;>omega) ?_
 try simp (maxSteps:=9^9) only[go_sem]
 repeat refine And.intro (by first|omega|(constructor<;>omega)|kernel_rfl) ?_
 refine LoopG.intro _ _ _ (fun x:Int × Int=>⟨[(0,.sl .int (natL a)),(1,.sl .int (natL b)),(5,.sc (.int .i64 x.1)),(6,.sc (.int .i64 x.2))],[]⟩) (fun x=>0<=x.1/\x.2<=999999999/\x.1<=q/\q<=x.2) (fun x=>(x.2 - x.1).toNat) (max 0 ((g:Int) - 2000),min 999999999 ((g:Int)+2000)) ?_ ⟨by simp only; omega,by simp only; omega,by simp only; omega,by simp only; omega⟩ ?_
 ·refine Wk.mk [] ?_
  try simp (maxSteps:=9^9) only[go_sem]
  try (and_intros<;>first|rfl|omega|exact ⟨_,rfl⟩)
 ·rintro ⟨lo,hi⟩ ⟨h1,h2,h3,h4⟩
  simp only at h1 h2 h3 h4
  try simp (maxSteps:=9^9) only[go_sem]
  refine CondW_dec (fun hA=>?_) (fun hA=>?_)
  ·try simp (maxSteps:=9^9) only[go_sem]
   repeat refine And.intro (by first|omega|(constructor<;>omega)|kernel_rfl) ?_
   refine QuoW.pos (by omega) (by omega) ?_
   obtain ⟨m,hm⟩:∃ m:Nat,(lo+hi+1) / 2=m:=⟨((lo+hi+1) / 2).toNat,by omega⟩
   rw [hm]
   try simp (maxSteps:=9^9) only[go_sem]
   repeat refine And.intro (by first|omega|(constructor<;>omega)|kernel_rfl) ?_
   refine CallW.mk (implNatOf_fn m) ?_
   try simp (maxSteps:=9^9) only[go_sem]
   repeat refine And.intro (by first|omega|(constructor<;>omega)|kernel_rfl) ?_
   refine CallW.mk (natMul_fn b m (by omega) (Nat.le_trans (nl_small (by omega)) (by omega))) ?_
   try simp (maxSteps:=9^9) only[go_sem]
   repeat refine And.intro (by first|omega|(constructor<;>omega)|kernel_rfl) ?_
   refine CallW.mk (natCmp_fn (natL (b * m)) (natL a)) ?_
   try simp (maxSteps:=9^9) only[go_sem]
   refine CondW_dec (fun hB=>?_) (fun hB=>?_)
   ·rw [cmpN_le,bin_mid hb0 hq] at hB
    try simp (maxSteps:=9^9) only[go_sem]
    refine LoopK.mk (m,hi) ?_ ⟨by simp only; omega,by simp only; omega,by simp only; omega,by simp only; omega⟩ (by simp only; omega)
    refine Wk.mk [] ?_
    try simp (maxSteps:=9^9) only[go_sem]
    try (and_intros<;>first|rfl|omega|exact ⟨_,rfl⟩)
   ·rw [cmpN_le,bin_mid hb0 hq] at hB
    try simp (maxSteps:=9^9) only[go_sem]
    repeat refine And.intro (by first|omega|(constructor<;>omega)|kernel_rfl) ?_
    refine LoopK.mk (lo,m - 1) ?_ ⟨by simp only; omega,by simp only; omega,by simp only; omega,by simp only; omega⟩ (by simp only; omega)
    refine Wk.mk [] ?_
    try simp (maxSteps:=9^9) only[go_sem]
    try (and_intros<;>first|rfl|omega|exact ⟨_,rfl⟩)
  ·try simp (maxSteps:=9^9) only[go_sem]
   omega
end Go.Proofs.YtffdhjnbppagjaaGreat.DW

namespace Go.Proofs.YtffdhjnbppagjaaGreat.DW
open Go.RowKit
theorem ni_set_self {l:List Int} {i:Nat} {d:Int} (h:i < l.length):ni (l.set i d) i=d:=by
 rw [ni_lt (by simpa using h)]; simp
theorem trim_shift (d r:Nat) (h:d < 1000000000):trimL ((d:Int) :: natL r)=natL (r * 1000000000+d):=by
 show trimL ([(d:Int)]++natL r)=_
 rw [trimL_val (lims_app (lims_one (by omega) (by omega)) (lims_natL r)),val_app,val_one,val_natL,Int.toNat_natCast]
 congr 1
 show d+pw 1 * r=_
 rw [pw_one]; omega
theorem trimmed_shift (d r:Nat) (h:d < 1000000000):Fn Tryz.prog 291 [⟨tInts,(d:Int) :: natL r⟩] false [⟨tInts,natL (r * 1000000000+d)⟩]:=by
 have:=trimmed_fn ((d:Int) :: natL r)
 rw [trim_shift d r h] at this
 exact this
theorem l02Trim_shift (d r:Nat) (h:d < 1000000000):Fn Tryz.prog 311 [⟨tInts,(d:Int) :: natL r⟩] false [⟨tInts,natL (r * 1000000000+d)⟩]:=by
 have:=l02Trim_fn ((d:Int) :: natL r)
 rw [trim_shift d r h] at this
 exact this
theorem nl_shift {r b d:Nat} (hr:r < b) (hd:d < 1000000000):r * 1000000000+d < b * 1000000000/\nl (r * 1000000000+d)<=nl b+1:=by
 refine ⟨by omega,?_⟩
 rw [nl_iff,pw_succ]
 have:=lt_nl b
 omega
theorem dg_one {b:Nat} (h:nl b=1):dg b 0=b:=by
 rw [dg_zero]; exact Nat.mod_eq_of_lt (nl_iff.1 (by omega:nl b<=1))
theorem natDiv_fn (a b:Nat) (hb0:0 < b) (ha:nl a<=40000) (hb:nl b<=40000):Fn Tryz.prog 218 [⟨tInts,natL a⟩,⟨tInts,natL b⟩] false [⟨tInts,natL (a / b)⟩,⟨tInts,natL (a % b)⟩]:=by
 have hbn:nl b ≠ 0:=fun h=>by rw [nl_eq_zero.1 h] at hb0; omega
 refine fn_enter tabOK mixes Tryz.func218 rfl rfl _ Tryz.ntmps218 _ Tryz.results218 (by simp) fun hwf=>?_
 try simp (maxSteps:=9^9) only[go_sem]
 repeat refine And.intro (by first|omega|(constructor<;>omega)|kernel_rfl) ?_
 refine CallW.mk (natCmp_fn (natL a) (natL b)) ?_
 try simp (maxSteps:=9^9) only[go_sem]
 refine CondW_dec (fun hA=>?_) (fun hA=>?_)
 ·rw [cmpN_lt] at hA
  try simp (maxSteps:=9^9) only[go_sem]
  rw [Nat.div_eq_of_lt hA,Nat.mod_eq_of_lt hA,natL_zero]
  exact ⟨rfl,rfl⟩
 ·rw [cmpN_lt] at hA
  try simp (maxSteps:=9^9) only[go_sem]
  refine CondW_dec (fun hB=>?_) (fun hB=>?_)
  ·have h1:nl b=1:=by omega
   have hb9:b < 1000000000:=nl_iff.1 (by omega:nl b<=1)
   try simp (maxSteps:=9^9) only[go_sem,hB]
   rw [dg_one h1]
   repeat refine And.intro (by first|omega|(constructor<;>omega)|kernel_rfl) ?_
   refine CallW.mk (natDivSmall_fn a b hb0 hb9 (by omega)) ?_
   try simp (maxSteps:=9^9) only[go_sem]
   repeat refine And.intro (by first|omega|(constructor<;>omega)|kernel_rfl) ?_
   refine CallW.mk (implNatOf_fn ((a % b:Nat):Int)) ?_
   try simp (maxSteps:=9^9) only[go_sem]
  ·have hb2:2<=nl b:=by omega
   try simp (maxSteps:=9^9) only[go_sem,hB]
   repeat refine And.intro (by first|omega|(constructor<;>omega)|kernel_rfl) ?_
   refine LoopG.intro _ _ _ (fun x:Nat × List Int=>⟨[(0,.sl .int (natL a)),(1,.sl .int (natL b)),(8,.row 0 0),(9,.sl .int (natL (a / pw x.1 % b))),(10,.sc (.int .i64 ((x.1:Int) - 1)))],[(0,.row 3 .int 0 true x.2)]⟩) (fun x=>x.1<=nl a/\lims x.2/\x.2.length=nl a/\val x.2=pw x.1 * (a / pw x.1 / b)) (fun x=>x.1) (nl a,List.replicate (nl a) 0) ?_ ⟨by simp,lims_rep _,by simp,by simp [val_rep,Nat.div_eq_of_lt (lt_nl a)]⟩ ?_
   ·refine Wk.mk [] ?_
    try simp (maxSteps:=9^9) only[go_sem]
    try (and_intros<;>first|rfl|omega|exact ⟨_,rfl⟩)
    all_goals (simp [Nat.div_eq_of_lt (lt_nl a),natL_zero])
   ·rintro ⟨t,out⟩ ⟨h1,h2,h3,h4⟩
    simp only at h1 h2 h3 h4
    try simp (maxSteps:=9^9) only[go_sem]
    refine CondW_dec (fun hC=>?_) (fun hC=>?_)
    ·obtain ⟨i,rfl⟩:∃ i,t=i+1:=⟨t - 1,by omega⟩
     have hd1:=dg_lt a i
     have hml:=Nat.mod_lt (a / pw (i+1)) hb0
     obtain ⟨s1,s2,s3⟩:=small_step (a:=a) (i:=i) hb0
     obtain ⟨s4,s5⟩:=small_set h2 (show i < out.length by omega) s3 h4
     have ei:((i+1:Nat):Int) - 1=i:=by omega
     obtain ⟨hr9,hrl⟩:=nl_shift hml hd1
     have hml2:nl (a / pw (i+1) % b)<=nl b:=nl_mono (Nat.le_of_lt hml)
     try simp (maxSteps:=9^9) only[go_sem,ei]
     repeat refine And.intro (by first|omega|(constructor<;>omega)|kernel_rfl) ?_
     try simp (maxSteps:=9^9) only[go_sem]
     repeat refine And.intro (by first|omega|(constructor<;>omega)|kernel_rfl) ?_
     refine CallW.mk (trimmed_shift (dg a i) (a / pw (i+1) % b) hd1) ?_
     try simp (maxSteps:=9^9) only[go_sem]
     generalize hR:a / pw (i+1) % b * 1000000000+dg a i=R at *
     repeat refine And.intro (by first|omega|(constructor<;>omega)|kernel_rfl) ?_
     refine CallW.mk (natCmp_fn (natL R) (natL b)) ?_
     try simp (maxSteps:=9^9) only[go_sem]
     refine CondW_dec (fun hD=>?_) (fun hD=>?_)
     ·rw [cmpN_ge] at hD
      try simp (maxSteps:=9^9) only[go_sem]
      repeat refine And.intro (by first|omega|(constructor<;>omega)|kernel_rfl) ?_
      refine CallW.mk (digit_fn R b hb2 (by omega) (by omega) hr9) ?_
      try simp (maxSteps:=9^9) only[go_sem]
      repeat refine And.intro (by first|omega|(constructor<;>omega)|kernel_rfl) ?_
      rw [ni_set_self (by omega)]
      repeat refine And.intro (by first|omega|(constructor<;>omega)|kernel_rfl) ?_
      refine CallW.mk (implNatOf_fn ((R / b:Nat):Int)) ?_
      try simp (maxSteps:=9^9) only[go_sem]
      repeat refine And.intro (by first|omega|(constructor<;>omega)|kernel_rfl) ?_
      refine CallW.mk (natMul_fn b (R / b) (by omega) (Nat.le_trans (nl_small s3) (by omega))) ?_
      try simp (maxSteps:=9^9) only[go_sem]
      repeat refine And.intro (by first|omega|(constructor<;>omega)|kernel_rfl) ?_
      refine CallW.mk (natSub_fn R (b * (R / b)) (Nat.mul_div_le R b) (by omega)) ?_
      try simp (maxSteps:=9^9) only[go_sem]
      repeat refine And.intro (by first|omega|(constructor<;>omega)|kernel_rfl) ?_
      refine LoopK.mk (i,out.set i ((R / b:Nat):Int)) ?_ ⟨by simp only; omega,s4,by simp [h3],by simp only; rw [s5,s2]⟩ (by simp only; omega)
      refine Wk.mk [] ?_
      try simp (maxSteps:=9^9) only[go_sem]
      try (and_intros<;>first|rfl|omega|exact ⟨_,rfl⟩)
      all_goals (have e:R - b * (R / b)=R % b:=(by have:=Nat.mod_add_div R b; omega); rw [e,s1])
     ·rw [cmpN_ge] at hD
      try simp (maxSteps:=9^9) only[go_sem]
      repeat refine And.intro (by first|omega|(constructor<;>omega)|kernel_rfl) ?_
      have hq0:R / b=0:=Nat.div_eq_of_lt (by omega)
      rw [hq0] at s2 s5
      refine LoopK.mk (i,out) ?_ ⟨by simp only; omega,h2,by simp [h3],by simp only; rw [h4,s2,pw_succ]; simp only [Nat.add_zero]; ac_rfl⟩ (by simp only; omega)
      refine Wk.mk [] ?_
      try simp (maxSteps:=9^9) only[go_sem]
      try (and_intros<;>first|rfl|omega|exact ⟨_,rfl⟩)
      all_goals (rw [<-s1,Nat.mod_eq_of_lt (by omega)])
    ·have ht:t=0:=by omega
     subst ht
     try simp (maxSteps:=9^9) only[go_sem,hC]
     repeat refine And.intro (by first|omega|(constructor<;>omega)|kernel_rfl) ?_
     refine CallW.mk (trimmed_fn out) ?_
     try simp (maxSteps:=9^9) only[go_sem]
     rw [trimL_val h2,h4,pw_zero,Nat.div_one,Nat.one_mul]
     exact ⟨rfl,rfl⟩
theorem l02Div_fn (a b:Nat) (hb0:0 < b) (ha:nl a<=40000) (hb:nl b<=40000):Fn Tryz.prog 307 [⟨tInts,natL a⟩,⟨tInts,natL b⟩] false [⟨tInts,natL (a / b)⟩,⟨tInts,natL (a % b)⟩]:=by
 have hbn:nl b ≠ 0:=fun h=>by rw [nl_eq_zero.1 h] at hb0; omega
 refine fn_enter tabOK mixes Tryz.func307 rfl rfl _ Tryz.ntmps307 _ Tryz.results307 (by simp) fun hwf=>?_
 try simp (maxSteps:=9^9) only[go_sem]
 refine CondW_dec (fun hB=>?_) (fun hB=>?_)
 ·have h1:nl b=1:=by omega
  have hb9:b < 1000000000:=nl_iff.1 (by omega:nl b<=1)
  try simp (maxSteps:=9^9) only[go_sem,hB]
  rw [dg_one h1]
  repeat refine And.intro (by first|omega|(constructor<;>omega)|kernel_rfl) ?_
  refine CallW.mk (l02Small_fn a b hb0 hb9 (by omega)) ?_
  try simp (maxSteps:=9^9) only[go_sem]
  repeat refine And.intro (by first|omega|(constructor<;>omega)|kernel_rfl) ?_
  refine CallW.mk (specNatOf_fn ((a % b:Nat):Int)) ?_
  try simp (maxSteps:=9^9) only[go_sem]
 ·have hb2:2<=nl b:=by omega
  try simp (maxSteps:=9^9) only[go_sem,hB]
  repeat refine And.intro (by first|omega|(constructor<;>omega)|kernel_rfl) ?_
  refine LoopG.intro _ _ _ (fun x:Nat × List Int=>⟨[(0,.sl .int (natL a)),(1,.sl .int (natL b)),(8,.row 0 0),(9,.sl .int (natL (a / pw x.1 % b))),(10,.sc (.int .i64 ((x.1:Int) - 1)))],[(0,.row 3 .int 0 true x.2)]⟩) (fun x=>x.1<=nl a/\lims x.2/\x.2.length=nl a/\val x.2=pw x.1 * (a / pw x.1 / b)) (fun x=>x.1) (nl a,List.replicate (nl a) 0) ?_ ⟨by simp,lims_rep _,by simp,by simp [val_rep,Nat.div_eq_of_lt (lt_nl a)]⟩ ?_
  ·refine Wk.mk [] ?_
   try simp (maxSteps:=9^9) only[go_sem]
   try (and_intros<;>first|rfl|omega|exact ⟨_,rfl⟩)
   all_goals (simp [Nat.div_eq_of_lt (lt_nl a),natL_zero])
  ·rintro ⟨t,out⟩ ⟨h1,h2,h3,h4⟩
   simp only at h1 h2 h3 h4
   try simp (maxSteps:=9^9) only[go_sem]
   refine CondW_dec (fun hC=>?_) (fun hC=>?_)
   ·obtain ⟨i,rfl⟩:∃ i,t=i+1:=⟨t - 1,by omega⟩
    have hd1:=dg_lt a i
    have hml:=Nat.mod_lt (a / pw (i+1)) hb0
    obtain ⟨s1,s2,s3⟩:=small_step (a:=a) (i:=i) hb0
    obtain ⟨s4,s5⟩:=small_set h2 (show i < out.length by omega) s3 h4
    have ei:((i+1:Nat):Int) - 1=i:=by omega
    obtain ⟨hr9,hrl⟩:=nl_shift hml hd1
    have hml2:nl (a / pw (i+1) % b)<=nl b:=nl_mono (Nat.le_of_lt hml)
    try simp (maxSteps:=9^9) only[go_sem,ei]
    repeat refine And.intro (by first|omega|(constructor<;>omega)|kernel_rfl) ?_
    try simp (maxSteps:=9^9) only[go_sem]
    repeat refine And.intro (by first|omega|(constructor<;>omega)|kernel_rfl) ?_
    refine CallW.mk (l02Trim_shift (dg a i) (a / pw (i+1) % b) hd1) ?_
    try simp (maxSteps:=9^9) only[go_sem]
    generalize hR:a / pw (i+1) % b * 1000000000+dg a i=R at *
    repeat refine And.intro (by first|omega|(constructor<;>omega)|kernel_rfl) ?_
    refine CallW.mk (l02Cmp_fn (natL R) (natL b)) ?_
    try simp (maxSteps:=9^9) only[go_sem]
    refine CondW_dec (fun hD=>?_) (fun hD=>?_)
    ·rw [cmpN_lt] at hD
     try simp (maxSteps:=9^9) only[go_sem]
     repeat refine And.intro (by first|omega|(constructor<;>omega)|kernel_rfl) ?_
     have hq0:R / b=0:=Nat.div_eq_of_lt (by omega)
     rw [hq0] at s2 s5
     refine LoopK.mk (i,out) ?_ ⟨by simp only; omega,h2,by simp [h3],by simp only; rw [h4,s2,pw_succ]; simp only [Nat.add_zero]; ac_rfl⟩ (by simp only; omega)
     refine Wk.mk [] ?_
     try simp (maxSteps:=9^9) only[go_sem]
     try (and_intros<;>first|rfl|omega|exact ⟨_,rfl⟩)
     all_goals (rw [<-s1,Nat.mod_eq_of_lt (by omega)])
    ·rw [cmpN_lt] at hD
     try simp (maxSteps:=9^9) only[go_sem]
     repeat refine And.intro (by first|omega|(constructor<;>omega)|kernel_rfl) ?_
     refine CallW.mk (l02Digit_fn R b hb0 (by omega) (by omega) hr9) ?_
     try simp (maxSteps:=9^9) only[go_sem]
     repeat refine And.intro (by first|omega|(constructor<;>omega)|kernel_rfl) ?_
     refine CallW.mk (specNatOf_fn ((R / b:Nat):Int)) ?_
     try simp (maxSteps:=9^9) only[go_sem]
     repeat refine And.intro (by first|omega|(constructor<;>omega)|kernel_rfl) ?_
     refine CallW.mk (l02Mul_fn b (R / b) (by omega) (Nat.le_trans (nl_small s3) (by omega))) ?_
     try simp (maxSteps:=9^9) only[go_sem]
     repeat refine And.intro (by first|omega|(constructor<;>omega)|kernel_rfl) ?_
     refine CallW.mk (l02Sub_fn R (b * (R / b)) (Nat.mul_div_le R b) (by omega)) ?_
     try simp (maxSteps:=9^9) only[go_sem]
     repeat refine And.intro (by first|omega|(constructor<;>omega)|kernel_rfl) ?_
     refine LoopK.mk (i,out.set i ((R / b:Nat):Int)) ?_ ⟨by simp only; omega,s4,by simp [h3],by simp only; rw [s5,s2]⟩ (by simp only; omega)
     refine Wk.mk [] ?_
     try simp (maxSteps:=9^9) only[go_sem]
     try (and_intros<;>first|rfl|omega|exact ⟨_,rfl⟩)
     all_goals (have e:R - b * (R / b)=R % b:=(by have:=Nat.mod_add_div R b; omega); rw [e,s1])
   ·have ht:t=0:=by omega
    subst ht
    try simp (maxSteps:=9^9) only[go_sem,hC]
    repeat refine And.intro (by first|omega|(constructor<;>omega)|kernel_rfl) ?_
    refine CallW.mk (l02Trim_fn out) ?_
    try simp (maxSteps:=9^9) only[go_sem]
    rw [trimL_val h2,h4,pw_zero,Nat.div_one,Nat.one_mul]
    exact ⟨rfl,rfl⟩
end Go.Proofs.YtffdhjnbppagjaaGreat.DW

namespace Go.Proofs.YtffdhjnbppagjaaGreat.DW
open Go.RowKit
theorem okN_natL {n:Nat} (h:nl n<=60):okN (natL n)=true:=bdec_t (okNP_natL.2 h)
theorem natL_one {n:Nat} (h:0 < n) (h2:n < 1000000000):natL n=[(n:Int)]:=by
 rw [natL_pos h,Nat.mod_eq_of_lt h2,Nat.div_eq_of_lt h2,natL_zero]
theorem natL_maxInt:natL 9223372036854775807=[854775807,223372036,9]:=by
 rw [natL_pos (by decide),natL_pos (by decide),natL_pos (by decide),natL_zero]; rfl
theorem div_le_i64 {a:Nat} (h:a<=9223372036854775807) (t:Nat):a / pw t<=9223372036854775807:=Nat.le_trans (Nat.div_le_self a _) h
theorem specNatToInt_fn (a:Nat) (ha:nl a<=60):Fn Tryz.prog 305 [⟨tInts,natL a⟩] false [⟨.int,if a<=9223372036854775807 then (a:Int) else 0⟩,⟨.bool,decide (a<=9223372036854775807)⟩]:=by
 refine fn_enter tabOK mixes Tryz.func305 rfl rfl _ Tryz.ntmps305 _ Tryz.results305 (by simp) fun hwf=>?_
 try simp (maxSteps:=9^9) only[go_sem]
 repeat refine And.intro (by first|omega|(constructor<;>omega)|kernel_rfl) ?_
 refine CallW.mk (specNatOk_fn (natL a)) ?_
 try simp (maxSteps:=9^9) only[go_sem]
 have hok:=okN_natL ha
 try simp (maxSteps:=9^9) only[go_sem,hok,Bool.not_true]
 have hcmp:=l02Cmp_fn (natL a) [854775807,223372036,9]
 rw [<-natL_maxInt,cmpL_nat,natL_maxInt] at hcmp
 repeat refine And.intro (by first|omega|(constructor<;>omega)|kernel_rfl) ?_
 refine CallW.mk (hcmp) ?_
 try simp (maxSteps:=9^9) only[go_sem]
 by_cases hA:a<=9223372036854775807
 ·have hB:¬ 0 < cmpN a 9223372036854775807:=by unfold cmpN; split<;>(try split)<;>omega
  try simp (maxSteps:=9^9) only[go_sem,hB,hA]
  repeat refine And.intro (by first|omega|(constructor<;>omega)|kernel_rfl) ?_
  refine LoopG.intro _ _ _ (fun t:Nat=>⟨[(0,.sl .int (natL a)),(4,.sc (.int .i64 (a / pw t:Nat))),(5,.sc (.int .i64 ((t:Int) - 1)))],[]⟩) (fun t=>t<=nl a) (fun t=>t) (nl a) ?_ (Nat.le_refl _) ?_
  ·refine Wk.mk [] ?_
   try simp (maxSteps:=9^9) only[go_sem]
   try (and_intros<;>first|rfl|omega|exact ⟨_,rfl⟩)
   all_goals (simp [Nat.div_eq_of_lt (lt_nl a)])
  ·rintro t h1
   try simp (maxSteps:=9^9) only[go_sem]
   refine CondW_dec (fun hC=>?_) (fun hC=>?_)
   ·obtain ⟨i,rfl⟩:∃ i,t=i+1:=⟨t - 1,by omega⟩
    have hd1:=dg_lt a i
    have hi:=div_pw_succ a i
    have hle:=div_le_i64 hA i
    have ei:((i+1:Nat):Int) - 1=i:=by omega
    generalize a / pw (i+1)=q at *
    try simp (maxSteps:=9^9) only[go_sem,ei]
    repeat refine And.intro (by first|omega|(constructor<;>omega)|kernel_rfl) ?_
    refine LoopK.mk i ?_ (by omega) (by omega)
    refine Wk.mk [] ?_
    try simp (maxSteps:=9^9) only[go_sem]
    try (and_intros<;>first|rfl|omega|exact ⟨_,rfl⟩)
   ·have ht:t=0:=by omega
    subst ht
    try simp (maxSteps:=9^9) only[go_sem,hC,hA]
    rw [pw_zero,Nat.div_one]
 ·have hB:0 < cmpN a 9223372036854775807:=by unfold cmpN; split<;>(try split)<;>omega
  try simp (maxSteps:=9^9) only[go_sem,hB,hA]
theorem gcd_step {x y a b:Nat} (h:Nat.gcd x y=Nat.gcd a b):Nat.gcd y (x % y)=Nat.gcd a b:=by
 rw [<-h,Nat.gcd_comm x y,Nat.gcd_rec y x,Nat.gcd_comm]
theorem l02Plain_fn (a b:Nat) (ha:a<=9223372036854775807) (hb:b<=9223372036854775807):Fn Tryz.prog 306 [⟨.int,(a:Int)⟩,⟨.int,(b:Int)⟩] false [⟨tInts,natL (Nat.gcd a b)⟩]:=by
 refine fn_enter tabOK mixes Tryz.func306 rfl rfl _ Tryz.ntmps306 _ Tryz.results306 (by simp) fun hwf=>?_
 try simp (maxSteps:=9^9) only[go_sem]
 refine LoopG.intro _ _ _ (fun x:Nat × Nat=>⟨[(0,.sc (.int .i64 x.1)),(1,.sc (.int .i64 x.2))],[]⟩) (fun x=>Nat.gcd x.1 x.2=Nat.gcd a b/\x.1<=9223372036854775807/\x.2<=9223372036854775807) (fun x=>x.2) (a,b) ?_ ⟨rfl,ha,hb⟩ ?_
 ·refine Wk.mk [] ?_
  try simp (maxSteps:=9^9) only[go_sem]
  try (and_intros<;>first|rfl|omega|exact ⟨_,rfl⟩)
 ·rintro ⟨x,y⟩ ⟨h1,h2,h3⟩
  simp only at h1 h2 h3
  try simp (maxSteps:=9^9) only[go_sem]
  refine CondW_dec (fun hA=>?_) (fun hA=>?_)
  ·have hy:0 < y:=by omega
   have hml:=Nat.mod_lt x hy
   try simp (maxSteps:=9^9) only[go_sem]
   refine RemW.pos (by omega) (by omega) ?_
   try simp (maxSteps:=9^9) only[go_sem]
   refine LoopK.mk (y,x % y) ?_ ⟨gcd_step h1,h3,by simp only; omega⟩ (by simp only; omega)
   refine Wk.mk [] ?_
   try simp (maxSteps:=9^9) only[go_sem]
   try (and_intros<;>first|rfl|omega|exact ⟨_,rfl⟩)
  ·have hy:y=0:=by omega
   subst hy
   try simp (maxSteps:=9^9) only[go_sem]
   repeat refine And.intro (by first|omega|(constructor<;>omega)|kernel_rfl) ?_
   refine CallW.mk (specNatOf_fn (x:Int)) ?_
   try simp (maxSteps:=9^9) only[go_sem]
   rw [Nat.gcd_zero_right] at h1
   rw [h1]
theorem l02Gcd_fn (a b:Nat) (ha:nl a<=60) (hb:nl b<=60):Fn Tryz.prog 234 [⟨tInts,natL a⟩,⟨tInts,natL b⟩] false [⟨tInts,natL (Nat.gcd a b)⟩]:=by
 refine fn_enter tabOK mixes Tryz.func234 rfl rfl _ Tryz.ntmps234 _ Tryz.results234 (by simp) fun hwf=>?_
 try simp (maxSteps:=9^9) only[go_sem]
 repeat refine And.intro (by first|omega|(constructor<;>omega)|kernel_rfl) ?_
 try simp (maxSteps:=9^9) only[go_sem]
 repeat refine And.intro (by first|omega|(constructor<;>omega)|kernel_rfl) ?_
 refine LoopG.intro _ _ _ (fun x:Nat × Nat=>⟨[(5,.sl .int (natL x.1)),(6,.sl .int (natL x.2))],[]⟩) (fun x=>Nat.gcd x.1 x.2=Nat.gcd a b/\nl x.1<=60/\nl x.2<=60) (fun x=>x.2) (a,b) ?_ ⟨rfl,ha,hb⟩ ?_
 ·refine Wk.mk [] ?_
  try simp (maxSteps:=9^9) only[go_sem]
  try (and_intros<;>first|rfl|omega|exact ⟨_,rfl⟩)
 ·rintro ⟨x,y⟩ ⟨h1,h2,h3⟩
  simp only at h1 h2 h3
  by_cases hy:y=0
  ·subst hy
   have hA:¬ (0:Int) < (nl 0:Nat):=by rw [nl_zero]; omega
   rw [Nat.gcd_zero_right] at h1
   try simp (maxSteps:=9^9) only[go_sem,hA]
   rw [h1]
  ·have hA:(0:Int) < (nl y:Nat):=by have:=(nl_le y hy).1; omega
   by_cases hs:(nl x:Int) < 3/\(nl y:Int) < 3
   ·obtain ⟨hB,hC⟩:=hs
    have hx9:x<=9223372036854775807:=by have:=(nl_iff (k:=2)).1 (show nl x<=2 by omega); have e:pw 2=1000000000000000000:=rfl; omega
    have hy9:y<=9223372036854775807:=by have:=(nl_iff (k:=2)).1 (show nl y<=2 by omega); have e:pw 2=1000000000000000000:=rfl; omega
    try simp (maxSteps:=9^9) only[go_sem,hA,hB,hC]
    repeat refine And.intro (by first|omega|(constructor<;>omega)|kernel_rfl) ?_
    refine CallW.mk (specNatToInt_fn x h2) ?_
    try simp (maxSteps:=9^9) only[go_sem]
    repeat refine And.intro (by first|omega|(constructor<;>omega)|kernel_rfl) ?_
    refine CallW.mk (specNatToInt_fn y h3) ?_
    try simp (maxSteps:=9^9) only[go_sem]
    try simp (maxSteps:=9^9) only[go_sem,hx9,hy9]
    repeat refine And.intro (by first|omega|(constructor<;>omega)|kernel_rfl) ?_
    refine CallW.mk (l02Plain_fn x y hx9 hy9) ?_
    try simp (maxSteps:=9^9) only[go_sem]
    rw [h1]
   ·have hp:¬ (nl x:Int) < 3\/((nl x:Int) < 3/\¬ (nl y:Int) < 3):=by omega
    have hml:=Nat.mod_lt x (Nat.pos_of_ne_zero hy)
    have hm2:=nl_mono (Nat.le_of_lt hml)
    rcases hp with hB|⟨hB,hC⟩
    ·try simp (maxSteps:=9^9) only[go_sem,hA,hB]
     repeat refine And.intro (by first|omega|(constructor<;>omega)|kernel_rfl) ?_
     refine CallW.mk (l02Div_fn x y (Nat.pos_of_ne_zero hy) (by omega) (by omega)) ?_
     try simp (maxSteps:=9^9) only[go_sem]
     refine LoopK.mk (y,x % y) ?_ ⟨gcd_step h1,h3,by simp only; omega⟩ (by simp only; omega)
     refine Wk.mk [] ?_
     try simp (maxSteps:=9^9) only[go_sem]
     try (and_intros<;>first|rfl|omega|exact ⟨_,rfl⟩)
    ·try simp (maxSteps:=9^9) only[go_sem,hA,hB,hC]
     repeat refine And.intro (by first|omega|(constructor<;>omega)|kernel_rfl) ?_
     refine CallW.mk (l02Div_fn x y (Nat.pos_of_ne_zero hy) (by omega) (by omega)) ?_
     try simp (maxSteps:=9^9) only[go_sem]
     refine LoopK.mk (y,x % y) ?_ ⟨gcd_step h1,h3,by simp only; omega⟩ (by simp only; omega)
     refine Wk.mk [] ?_
     try simp (maxSteps:=9^9) only[go_sem]
     try (and_intros<;>first|rfl|omega|exact ⟨_,rfl⟩)
theorem natGcd_fn (a b:Nat) (ha:nl a<=30000) (hb:nl b<=30000):Fn Tryz.prog 140 [⟨tInts,natL a⟩,⟨tInts,natL b⟩] false [⟨tInts,natL (Nat.gcd a b)⟩]:=by
 refine fn_enter tabOK mixes Tryz.func140 rfl rfl _ Tryz.ntmps140 _ Tryz.results140 (by simp) fun hwf=>?_
 try simp (maxSteps:=9^9) only[go_sem]
 refine LoopG.intro _ _ _ (fun x:Nat × Nat=>⟨[(0,.sl .int (natL x.1)),(1,.sl .int (natL x.2))],[]⟩) (fun x=>Nat.gcd x.1 x.2=Nat.gcd a b/\nl x.1<=30000/\nl x.2<=30000) (fun x=>x.2) (a,b) ?_ ⟨rfl,ha,hb⟩ ?_
 ·refine Wk.mk [] ?_
  try simp (maxSteps:=9^9) only[go_sem]
  try (and_intros<;>first|rfl|omega|exact ⟨_,rfl⟩)
 ·rintro ⟨x,y⟩ ⟨h1,h2,h3⟩
  simp only at h1 h2 h3
  by_cases hA:(1:Int) < (nl y:Nat)
  ·have hy:0 < y:=Nat.pos_of_ne_zero fun h=>by rw [h,nl_zero] at hA; omega
   have hml:=Nat.mod_lt x hy
   have hm2:=nl_mono (Nat.le_of_lt hml)
   try simp (maxSteps:=9^9) only[go_sem,hA]
   repeat refine And.intro (by first|omega|(constructor<;>omega)|kernel_rfl) ?_
   refine CallW.mk (natDiv_fn x y hy (by omega) (by omega)) ?_
   try simp (maxSteps:=9^9) only[go_sem]
   refine LoopK.mk (y,x % y) ?_ ⟨gcd_step h1,h3,by simp only; omega⟩ (by simp only; omega)
   refine Wk.mk [] ?_
   try simp (maxSteps:=9^9) only[go_sem]
   try (and_intros<;>first|rfl|omega|exact ⟨_,rfl⟩)
  ·by_cases hy:y=0
   ·subst hy
    have hB:(nl 0:Int)=0:=by rw [nl_zero]; rfl
    rw [Nat.gcd_zero_right] at h1
    try simp (maxSteps:=9^9) only[go_sem,hA,hB]
    rw [h1]
   ·have hB:¬ (nl y:Int)=0:=by have:=(nl_le y hy).1; omega
    have h4:nl y=1:=by omega
    have hy9:y < 1000000000:=nl_iff.1 (by omega:nl y<=1)
    have hml:=Nat.mod_lt x (Nat.pos_of_ne_zero hy)
    try simp (maxSteps:=9^9) only[go_sem,hA,hB]
    repeat refine And.intro (by first|omega|(constructor<;>omega)|kernel_rfl) ?_
    have hsm:=natDivSmall_fn x y (Nat.pos_of_ne_zero hy) hy9 (by omega)
    rw [<-dg_one h4] at hsm
    repeat refine And.intro (by first|omega|(constructor<;>omega)|kernel_rfl) ?_
    refine CallW.mk (hsm) ?_
    try simp (maxSteps:=9^9) only[go_sem]
    repeat refine And.intro (by first|omega|(constructor<;>omega)|kernel_rfl) ?_
    rw [dg_one h4]
    refine LoopG.intro _ _ _ (fun z:Nat × Nat=>⟨[(8,.sc (.int .i64 z.2)),(9,.sc (.int .i64 z.1))],[]⟩) (fun z=>Nat.gcd z.1 z.2=Nat.gcd a b/\0 < z.1/\z.1 < 1000000000/\z.2 < 1000000000) (fun z=>z.2) (y,x % y) ?_ ⟨gcd_step h1,Nat.pos_of_ne_zero hy,hy9,by simp only; omega⟩ ?_
    ·refine Wk.mk [] ?_
     try simp (maxSteps:=9^9) only[go_sem]
     try (and_intros<;>first|rfl|omega|exact ⟨_,rfl⟩)
    ·rintro ⟨u,v⟩ ⟨g1,g2,g3,g4⟩
     simp only at g1 g2 g3 g4
     try simp (maxSteps:=9^9) only[go_sem]
     refine CondW_dec (fun hC=>?_) (fun hC=>?_)
     ·have hv:0 < v:=by omega
      have hml2:=Nat.mod_lt u hv
      try simp (maxSteps:=9^9) only[go_sem]
      refine RemW.pos (by omega) (by omega) ?_
      try simp (maxSteps:=9^9) only[go_sem]
      repeat refine And.intro (by first|omega|(constructor<;>omega)|kernel_rfl) ?_
      refine LoopK.mk (v,u % v) ?_ ⟨gcd_step g1,hv,g4,by simp only; omega⟩ (by simp only; omega)
      refine Wk.mk [] ?_
      try simp (maxSteps:=9^9) only[go_sem]
      try (and_intros<;>first|rfl|omega|exact ⟨_,rfl⟩)
     ·have hv:v=0:=by omega
      subst hv
      rw [Nat.gcd_zero_right] at g1
      try simp (maxSteps:=9^9) only[go_sem]
      rw [<-g1,natL_one g2 g3]
end Go.Proofs.YtffdhjnbppagjaaGreat.DW

namespace Go.Proofs.YtffdhjnbppagjaaGreat.DW
open Go.RowKit
abbrev DB:Type:=Bool × List Int
abbrev DR:Type:=DB × List Int
def bigD (z:Int):DB:=(decide (z < 0),natL z.natAbs)
def bZ:DB:=(false,[])
theorem bigD_zero:bigD 0=bZ:=by simp [bigD,bZ,natL_zero]
theorem bigD_inj {x y:Int} (h:bigD x=bigD y):x=y:=by
 simp only [bigD,Prod.mk.injEq,decide_eq_decide] at h
 have:=natL_inj h.2
 omega
theorem bigD_nat (n:Nat):bigD n=(false,natL n):=by
 rw [bigD,Int.natAbs_natCast,decide_eq_false (by omega)]
def sgn (s:Bool) (n:Nat):Int:=if s then -(n:Int) else n
theorem bigD_sgn (s:Bool) (n:Nat):bigD (sgn s n)=(s && decide (0 < n),natL n):=by
 cases s with
 | false=>simp only [sgn,Bool.false_eq_true,if_false,bigD_nat,Bool.false_and]
 | true =>
  simp only [sgn,if_true,bigD,Int.natAbs_neg,Int.natAbs_natCast,Bool.true_and]
  congr 1
  rw [decide_eq_decide]; omega
theorem sgn_bigD (z:Int):sgn (decide (z < 0)) z.natAbs=z:=by
 unfold sgn; split<;>simp_all<;>omega
def okBP (x:DB):Prop:=okNP x.2/\¬ (x.1=true/\x.2.length=0)
noncomputable def okB (x:DB):Bool:=bdec (okBP x)
theorem okBP_bigD {z:Int}:okBP (bigD z) ↔ nl z.natAbs<=60:=by
 unfold okBP bigD
 simp only [okNP_natL,natL_len_nl,nl_eq_zero,decide_eq_true_eq]
 constructor
 ·exact fun h=>h.1
 ·exact fun h=>⟨h,by omega⟩
theorem okBP_iff {x:DB}:okBP x ↔ ∃ z:Int,x=bigD z/\nl z.natAbs<=60:=by
 constructor
 ·intro h
  obtain ⟨n,e,hn⟩:=okNP_iff.1 h.1
  refine ⟨sgn x.1 n,?_,?_⟩
  ·rw [bigD_sgn]
   obtain ⟨s,l⟩:=x
   simp only at e h ⊢
   subst e
   have h2:=h.2
   simp only [natL_len_nl,nl_eq_zero] at h2
   cases s with
   | false=>rfl
   | true =>
    have:0 < n:=by simp at h2; omega
    simp [this]
  ·have:(sgn x.1 n).natAbs=n:=by unfold sgn; split<;>omega
   rw [this]; exact hn
 ·rintro ⟨z,rfl,h⟩; exact okBP_bigD.2 h
def cmpZ (a b:Int):Int:=if a < b then -1 else if b < a then 1 else 0
def small (q:Rat):Prop:=nl q.num.natAbs<=24/\nl q.den<=24
def ratD (q:Rat):DR:=(bigD q.num,natL q.den)
def rZ:DR:=(bZ,[])
def oD:Option Rat->DR
 | none=>rZ
 | some q=>ratD q
theorem den_pos' (q:Rat):0 < q.den:=Nat.pos_of_ne_zero q.den_nz
theorem ratD_ne (q:Rat):ratD q ≠ rZ:=fun h=>by
 have h2:natL q.den=[]:=congrArg Prod.snd h
 exact q.den_nz (natL_nil.1 h2)
theorem ratD_inj {p q:Rat} (h:ratD p=ratD q):p=q:=by
 simp only [ratD,Prod.mk.injEq] at h
 exact Rat.ext (bigD_inj h.1) (natL_inj h.2)
noncomputable def capR (q:Rat):Option Rat:=@ite _ (small q) (Classical.propDecidable _) (some q) none
theorem capR_s {q:Rat} (h:small q):capR q=some q:=if_pos h
theorem capR_n {q:Rat} (h:¬ small q):capR q=none:=if_neg h
def okO (x:Option Rat):Prop:=∀ q,x=some q->small q
theorem okO_none:okO none:=fun _ h=>by cases h
theorem okO_cap (q:Rat):okO (capR q):=fun p h=>by
 by_cases hs:small q
 ·rw [capR_s hs] at h; injection h with h; exact h ▸ hs
 ·rw [capR_n hs] at h; cases h
noncomputable def rdO (r:DR):Option Rat:=@dite _ (∃ q,small q/\r=ratD q) (Classical.propDecidable _) (fun h=>some (Classical.choose h)) (fun _=>none)
theorem rdO_ratD {q:Rat} (h:small q):rdO (ratD q)=some q:=by
 have he:∃ p,small p/\ratD q=ratD p:=⟨q,h,rfl⟩
 unfold rdO
 rw [dif_pos he]
 exact congrArg some (ratD_inj (Classical.choose_spec he).2.symm)
theorem rdO_oD {x:Option Rat} (h:okO x):rdO (oD x)=x:=by
 cases x with
 | none =>
  unfold rdO
  rw [dif_neg]
  rintro ⟨q,_,hq⟩
  exact ratD_ne q hq.symm
 | some q=>exact rdO_ratD (h q rfl)
theorem rdO_some {r:DR} {q:Rat} (h:rdO r=some q):small q/\r=ratD q:=by
 unfold rdO at h
 split at h
 ·rename_i he
  injection h with h
  rw [<-h]; exact Classical.choose_spec he
 ·cases h
theorem okO_rdO (r:DR):okO (rdO r):=fun q h=>(rdO_some h).1
noncomputable def okR (r:DR):Bool:=(rdO r).isSome
theorem okR_ratD {q:Rat} (h:small q):okR (ratD q)=true:=by rw [okR,rdO_ratD h]; rfl
theorem okR_t {r:DR} (h:okR r=true):∃ q,small q/\r=ratD q/\rdO r=some q:=by
 unfold okR at h
 cases hr:rdO r with
 | none=>rw [hr] at h; cases h
 | some q=>exact ⟨q,(rdO_some hr).1,(rdO_some hr).2,rfl⟩
theorem okR_f {r:DR} (h:okR r=false):rdO r=none:=by
 unfold okR at h
 cases hr:rdO r with
 | none=>rfl
 | some q=>rw [hr] at h; cases h
theorem okR_iff {r:DR}:okR r=true ↔ okBP r.1/\okNP r.2/\r.2 ≠ []/\r.1.2.length<=24/\r.2.length<=24/\Nat.gcd (val r.1.2) (val r.2)=1:=by
 constructor
 ·intro h
  obtain ⟨q,⟨h1,h2⟩,rfl,_⟩:=okR_t h
  simp only [ratD,bigD,natL_len_nl,val_natL]
  refine ⟨okBP_bigD.2 (by omega),okNP_natL.2 (by omega),fun h=>q.den_nz (natL_nil.1 h),h1,h2,q.reduced⟩
 ·rintro ⟨h1,h2,h3,h4,h5,h6⟩
  obtain ⟨z,hz,hzl⟩:=okBP_iff.1 h1
  obtain ⟨n,hn,hnl⟩:=okNP_iff.1 h2
  obtain ⟨x,l⟩:=r
  simp only at hz hn h3 h4 h5 h6
  subst hz hn
  simp only [bigD,natL_len_nl,val_natL] at h4 h5 h6
  have hn0:n ≠ 0:=fun h=>h3 (natL_nil.2 h)
  exact okR_ratD (q:=⟨z,n,hn0,h6⟩) ⟨h4,h5⟩
noncomputable def addO:Option Rat->Option Rat->Option Rat
 | some p,some q=>capR (p+q)
 | _,_=>none
noncomputable def mulO:Option Rat->Option Rat->Option Rat
 | some p,some q=>capR (p * q)
 | _,_=>none
noncomputable def divO:Option Rat->Option Rat->Option Rat
 | some p,some q=>@ite _ (q=0) (Classical.propDecidable _) none (capR (p / q))
 | _,_=>none
def negO:Option Rat->Option Rat
 | some p=>some (-p)
 | none=>none
noncomputable def subO (x y:Option Rat):Option Rat:=addO x (negO y)
noncomputable def cmpQ (p q:Rat):Int:=if p < q then -1 else if q < p then 1 else 0
noncomputable def cmpO:Option Rat->Option Rat->Int
 | some p,some q=>cmpQ p q
 | _,_=>0
noncomputable def sgnO:Option Rat->Int
 | some p=>cmpQ p 0
 | none=>0
theorem okO_add (x y:Option Rat):okO (addO x y):=by
 unfold addO; split
 ·exact okO_cap _
 ·exact okO_none
theorem okO_mul (x y:Option Rat):okO (mulO x y):=by
 unfold mulO; split
 ·exact okO_cap _
 ·exact okO_none
theorem small_neg {q:Rat} (h:small q):small (-q):=by
 unfold small at *
 rw [Rat.neg_num,Rat.neg_den,Int.natAbs_neg]; exact h
theorem okO_neg {x:Option Rat} (h:okO x):okO (negO x):=by
 cases x with
 | none=>exact okO_none
 | some q=>intro p hp; injection hp with hp; subst hp; exact small_neg (h q rfl)
theorem okO_sub (x y:Option Rat):okO (subO x y):=okO_add _ _
theorem mk_parts {z:Int} {n:Nat} (hn:n ≠ 0):(_root_.mkRat z n).num=z / (Nat.gcd z.natAbs n:Nat)/\(_root_.mkRat z n).den=n / Nat.gcd z.natAbs n:=by
 rw [Rat.num_mkRat,Rat.den_mkRat,if_neg hn,if_neg hn,Nat.gcd_comm]; exact ⟨rfl,rfl⟩
theorem add_mk (p q:Rat):p+q=_root_.mkRat (p.num * q.den+q.num * p.den) (p.den * q.den):=by
 have h:=Rat.mkRat_add_mkRat p.num q.num p.den_nz q.den_nz
 rw [Rat.mkRat_self,Rat.mkRat_self] at h; exact h
theorem mul_mk (p q:Rat):p * q=_root_.mkRat (p.num * q.num) (p.den * q.den):=by
 have h:=Rat.mkRat_mul_mkRat p.num q.num p.den q.den
 rw [Rat.mkRat_self,Rat.mkRat_self] at h; exact h
theorem cmpQ_eq (p q:Rat):cmpQ p q=cmpZ (p.num * q.den) (q.num * p.den):=by
 unfold cmpQ cmpZ
 simp only [Rat.lt_iff]
theorem mk_abs {z:Int} {n:Nat} (hn:n ≠ 0):(_root_.mkRat z n).num.natAbs=z.natAbs / Nat.gcd z.natAbs n/\(_root_.mkRat z n).den=n / Nat.gcd z.natAbs n/\decide ((_root_.mkRat z n).num < 0)=decide (z < 0):=by
 obtain ⟨h1,h2⟩:=mk_parts (z:=z) hn
 have hg:0 < Nat.gcd z.natAbs n:=Nat.gcd_pos_of_pos_right _ (Nat.pos_of_ne_zero hn)
 have hd:Nat.gcd z.natAbs n ∣ z.natAbs:=Nat.gcd_dvd_left ..
 rw [h1,h2]
 generalize Nat.gcd z.natAbs n=g at *
 obtain ⟨k,hk⟩:=hd
 have hk2:z.natAbs / g=k:=by rw [hk,Nat.mul_div_cancel_left _ hg]
 have hz:z=sgn (decide (z < 0)) z.natAbs:=(sgn_bigD z).symm
 have hgz:z / (g:Int)=sgn (decide (z < 0)) k:=by
  have hg':(g:Int) ≠ 0:=by omega
  have e:z=(g:Int) * sgn (decide (z < 0)) k:=by
   rw [hk] at hz
   by_cases h:z < 0
   ·simp only [sgn,h,decide_true,if_true,Int.natCast_mul] at hz ⊢
    rw [Int.mul_neg]; exact hz
   ·simp only [sgn,h,decide_false,Bool.false_eq_true,if_false,Int.natCast_mul] at hz ⊢
    exact hz
  conv=>lhs; rw [e]
  exact Int.mul_ediv_cancel_left _ hg'
 rw [hgz,hk2]
 refine ⟨by unfold sgn; split<;>omega,rfl,?_⟩
 rw [decide_eq_decide]
 unfold sgn
 by_cases h:z < 0
 ·have hkp:0 < k:=by
   rcases Nat.eq_zero_or_pos k with h0|h0
   ·rw [h0,Nat.mul_zero] at hk; omega
   ·exact h0
  simp [h]; omega
 ·simp [h]
end Go.Proofs.YtffdhjnbppagjaaGreat.DW

namespace Go.Proofs.YtffdhjnbppagjaaGreat.DW
open Go.RowKit
attribute [go_sem] bigD
theorem nlpos {n:Nat}:(0:Int) < (nl n:Nat) ↔ 0 < n:=by
 by_cases h:n=0
 ·subst h; rw [nl_zero]; simp
 ·have:=(nl_le n h).1; omega
theorem sgn_mul (x y:Int):sgn (!(decide (x < 0) == decide (y < 0))) (x.natAbs * y.natAbs)=x * y:=by
 unfold sgn
 rw [Int.natCast_mul]
 by_cases hx:x < 0<;>by_cases hy:y < 0<;>simp only [hx,hy,decide_true,decide_false,beq_self_eq_true,Bool.not_true,Bool.false_eq_true,if_false,Bool.not_false,if_true,beq_iff_eq,reduceCtorEq]
 ·rw [show (x.natAbs:Int)=-x by omega,show (y.natAbs:Int)=-y by omega,Int.neg_mul_neg]
 ·have e:(!(true == false))=true:=rfl
  rw [e,if_pos rfl,show (x.natAbs:Int)=-x by omega,show (y.natAbs:Int)=y by omega,Int.neg_mul,Int.neg_neg]
 ·have e:(!(false == true))=true:=rfl
  rw [e,if_pos rfl,show (x.natAbs:Int)=x by omega,show (y.natAbs:Int)=-y by omega,Int.mul_neg,Int.neg_neg]
 ·rw [show (x.natAbs:Int)=x by omega,show (y.natAbs:Int)=y by omega]
theorem cmpZ_nn {x y:Int} (hx:x < 0) (hy:y < 0):cmpN y.natAbs x.natAbs=cmpZ x y:=by
 unfold cmpN cmpZ
 by_cases h1:x < y
 ·rw [if_pos (by omega),if_pos h1]
 ·by_cases h2:y < x
  ·rw [if_neg (by omega),if_pos (by omega),if_neg h1,if_pos h2]
  ·rw [if_neg (by omega),if_neg (by omega),if_neg h1,if_neg h2]
theorem cmpZ_pp {x y:Int} (hx:¬ x < 0) (hy:¬ y < 0):cmpN x.natAbs y.natAbs=cmpZ x y:=by
 unfold cmpN cmpZ
 by_cases h1:x < y
 ·rw [if_pos (by omega),if_pos h1]
 ·by_cases h2:y < x
  ·rw [if_neg (by omega),if_pos (by omega),if_neg h1,if_pos h2]
  ·rw [if_neg (by omega),if_neg (by omega),if_neg h1,if_neg h2]
theorem cmpZ_np {x y:Int} (hx:x < 0) (hy:¬ y < 0):cmpZ x y=-1:=by unfold cmpZ; rw [if_pos (by omega)]
theorem cmpZ_pn {x y:Int} (hx:¬ x < 0) (hy:y < 0):cmpZ x y=1:=by unfold cmpZ; rw [if_neg (by omega),if_pos (by omega)]
theorem clone_fn (l:List Int) (hl:l.length<=16777216):Fn Tryz.prog 168 [⟨tInts,l⟩] true [⟨tInts,l⟩]:=by
 refine fn_enter tabOK mixes Tryz.func168 rfl rfl _ Tryz.ntmps168 _ Tryz.results168 (by simp) fun hwf=>?_
 try simp (maxSteps:=9^9) only[go_sem]
 refine NilW.eq ?_
 try simp (maxSteps:=9^9) only[go_sem]
 refine CondW_nb (fun h=>?_) (fun h=>?_)
 ·try simp (maxSteps:=9^9) only[go_sem,h]
 ·try simp (maxSteps:=9^9) only[go_sem]
  repeat refine And.intro (by first|omega|(constructor<;>omega)|kernel_rfl) ?_
  try simp (maxSteps:=9^9) only[go_sem]
  omega
theorem bigMake_fn (s:Bool) (n:Nat):Fn Tryz.prog 284 [⟨.bool,s⟩,⟨tInts,natL n⟩] false [⟨tBig,bigD (sgn s n)⟩]:=by
 rw [bigD_sgn]
 cases s
 ·refine fn_enter tabOK mixes Tryz.func284 rfl rfl _ Tryz.ntmps284 _ Tryz.results284 (by simp) fun hwf=>?_
  try simp (maxSteps:=9^9) only[go_sem]
 ·refine fn_enter tabOK mixes Tryz.func284 rfl rfl _ Tryz.ntmps284 _ Tryz.results284 (by simp) fun hwf=>?_
  try simp (maxSteps:=9^9) only[go_sem]
  simp only [nlpos]
theorem bigMake_to {s:Bool} {n:Nat} {z:Int} (h:sgn s n=z):Fn Tryz.prog 284 [⟨.bool,s⟩,⟨tInts,natL n⟩] false [⟨tBig,bigD z⟩]:=h ▸ bigMake_fn s n
theorem bigNeg_fn (z:Int):Fn Tryz.prog 345 [⟨tBig,bigD z⟩] false [⟨tBig,bigD (-z)⟩]:=by
 refine fn_enter tabOK mixes Tryz.func345 rfl rfl _ Tryz.ntmps345 _ Tryz.results345 (by simp) fun hwf=>?_
 try simp (maxSteps:=9^9) only[go_sem]
 repeat refine And.intro (by first|omega|(constructor<;>omega)|kernel_rfl) ?_
 refine CallW.mk (bigMake_to (s:=!decide (z < 0)) (n:=z.natAbs) (z:=-z) (by unfold sgn; by_cases h:z < 0<;>simp [h]<;>omega)) ?_
 try simp (maxSteps:=9^9) only[go_sem]
theorem bigAdd_fn (x y:Int) (hx:nl x.natAbs<=10000) (hy:nl y.natAbs<=10000):Fn Tryz.prog 288 [⟨tBig,bigD x⟩,⟨tBig,bigD y⟩] false [⟨tBig,bigD (x+y)⟩]:=by
 refine fn_enter tabOK mixes Tryz.func288 rfl rfl _ Tryz.ntmps288 _ Tryz.results288 (by simp) fun hwf=>?_
 try simp (maxSteps:=9^9) only[go_sem]
 refine CondW_b (fun h=>?_) (fun h=>?_)
 ·have hs:decide (x < 0)=decide (y < 0):=by simpa using h
  try simp (maxSteps:=9^9) only[go_sem]
  repeat refine And.intro (by first|omega|(constructor<;>omega)|kernel_rfl) ?_
  refine CallW.mk (natAdd_fn x.natAbs y.natAbs (by omega) (by omega)) ?_
  try simp (maxSteps:=9^9) only[go_sem]
  repeat refine And.intro (by first|omega|(constructor<;>omega)|kernel_rfl) ?_
  refine CallW.mk (bigMake_to (s:=decide (x < 0)) (n:=x.natAbs+y.natAbs) (z:=x+y) (by unfold sgn; by_cases h:x < 0<;>by_cases h2:y < 0<;>simp [h,h2] at hs ⊢<;>omega)) ?_
  try simp (maxSteps:=9^9) only[go_sem]
  kernel_rfl
 ·have hs:decide (x < 0) ≠ decide (y < 0):=by simpa using h
  try simp (maxSteps:=9^9) only[go_sem]
  repeat refine And.intro (by first|omega|(constructor<;>omega)|kernel_rfl) ?_
  refine CallW.mk (natCmp_fn (natL x.natAbs) (natL y.natAbs)) ?_
  try simp (maxSteps:=9^9) only[go_sem]
  refine CondW_dec (fun hc=>?_) (fun hc=>?_)
  ·rw [cmpN_ge] at hc
   try simp (maxSteps:=9^9) only[go_sem]
   repeat refine And.intro (by first|omega|(constructor<;>omega)|kernel_rfl) ?_
   refine CallW.mk (natSub_fn x.natAbs y.natAbs hc (by omega)) ?_
   try simp (maxSteps:=9^9) only[go_sem]
   repeat refine And.intro (by first|omega|(constructor<;>omega)|kernel_rfl) ?_
   refine CallW.mk (bigMake_to (s:=decide (x < 0)) (n:=x.natAbs - y.natAbs) (z:=x+y) (by unfold sgn; by_cases h:x < 0<;>by_cases h2:y < 0<;>simp [h,h2] at hs ⊢<;>omega)) ?_
   try simp (maxSteps:=9^9) only[go_sem]
   kernel_rfl
  ·rw [cmpN_ge] at hc
   try simp (maxSteps:=9^9) only[go_sem]
   repeat refine And.intro (by first|omega|(constructor<;>omega)|kernel_rfl) ?_
   refine CallW.mk (natSub_fn y.natAbs x.natAbs (by omega) (by omega)) ?_
   try simp (maxSteps:=9^9) only[go_sem]
   repeat refine And.intro (by first|omega|(constructor<;>omega)|kernel_rfl) ?_
   refine CallW.mk (bigMake_to (s:=decide (y < 0)) (n:=y.natAbs - x.natAbs) (z:=x+y) (by unfold sgn; by_cases h:x < 0<;>by_cases h2:y < 0<;>simp [h,h2] at hs ⊢<;>omega)) ?_
   try simp (maxSteps:=9^9) only[go_sem]
   kernel_rfl
theorem bigMul_fn (x y:Int) (hx:nl x.natAbs<=10000) (hy:nl y.natAbs<=10000):Fn Tryz.prog 212 [⟨tBig,bigD x⟩,⟨tBig,bigD y⟩] false [⟨tBig,bigD (x * y)⟩]:=by
 refine fn_enter tabOK mixes Tryz.func212 rfl rfl _ Tryz.ntmps212 _ Tryz.results212 (by simp) fun hwf=>?_
 try simp (maxSteps:=9^9) only[go_sem]
 repeat refine And.intro (by first|omega|(constructor<;>omega)|kernel_rfl) ?_
 refine CallW.mk (natMul_fn x.natAbs y.natAbs (by omega) (by omega)) ?_
 try simp (maxSteps:=9^9) only[go_sem]
 repeat refine And.intro (by first|omega|(constructor<;>omega)|kernel_rfl) ?_
 refine CallW.mk (bigMake_to (s:=!(decide (x < 0) == decide (y < 0))) (n:=x.natAbs * y.natAbs) (z:=x * y) (sgn_mul x y)) ?_
 try simp (maxSteps:=9^9) only[go_sem]
 kernel_rfl
theorem bigCmp_fn (x y:Int):Fn Tryz.prog 211 [⟨tBig,bigD x⟩,⟨tBig,bigD y⟩] false [⟨.int,cmpZ x y⟩]:=by
 by_cases hx:x < 0<;>by_cases hy:y < 0
 ·refine fn_enter tabOK mixes Tryz.func211 rfl rfl _ Tryz.ntmps211 _ Tryz.results211 (by simp) fun hwf=>?_
  try simp (maxSteps:=9^9) only[go_sem,hx,hy]
  repeat refine And.intro (by first|omega|(constructor<;>omega)|kernel_rfl) ?_
  refine CallW.mk (natCmp_fn (natL y.natAbs) (natL x.natAbs)) ?_
  try simp (maxSteps:=9^9) only[go_sem]
  exact cmpZ_nn hx hy
 ·refine fn_enter tabOK mixes Tryz.func211 rfl rfl _ Tryz.ntmps211 _ Tryz.results211 (by simp) fun hwf=>?_
  try simp (maxSteps:=9^9) only[go_sem,hx,hy]
  exact (cmpZ_np hx hy).symm
 ·refine fn_enter tabOK mixes Tryz.func211 rfl rfl _ Tryz.ntmps211 _ Tryz.results211 (by simp) fun hwf=>?_
  try simp (maxSteps:=9^9) only[go_sem,hx,hy]
  exact (cmpZ_pn hx hy).symm
 ·refine fn_enter tabOK mixes Tryz.func211 rfl rfl _ Tryz.ntmps211 _ Tryz.results211 (by simp) fun hwf=>?_
  try simp (maxSteps:=9^9) only[go_sem,hx,hy]
  repeat refine And.intro (by first|omega|(constructor<;>omega)|kernel_rfl) ?_
  refine CallW.mk (natCmp_fn (natL x.natAbs) (natL y.natAbs)) ?_
  try simp (maxSteps:=9^9) only[go_sem]
  exact cmpZ_pp hx hy
theorem ownBig_fn (z:Int) (hz:nl z.natAbs<=60):Fn Tryz.prog 338 [⟨tBig,bigD z⟩] true [⟨tBig,bigD z⟩]:=by
 have hA:¬ (60:Int) < nl z.natAbs:=by omega
 refine fn_enter tabOK mixes Tryz.func338 rfl rfl _ Tryz.ntmps338 _ Tryz.results338 (by simp) fun hwf=>?_
 try simp (maxSteps:=9^9) only[go_sem,hA]
 repeat refine And.intro (by first|omega|(constructor<;>omega)|kernel_rfl) ?_
 refine CallW.mk (clone_fn (natL z.natAbs) (by show nl z.natAbs<=16777216; omega)) ?_
 try simp (maxSteps:=9^9) only[go_sem]
 kernel_rfl
theorem okB_eq (s:Bool) (l:List Int):okB (s,l)=(okN l && !(s && decide ((l.length:Int)=0))):=by
 by_cases h1:okNP l
 ·by_cases h2:l.length=0
  ·cases s
   ·rw [okB,bdec_t ⟨h1,fun h=>by cases h.1⟩,okN,bdec_t h1]; rfl
   ·rw [okB,bdec_f fun h=>h.2 ⟨rfl,h2⟩,h2]; simp
  ·rw [okB,bdec_t ⟨h1,fun h=>h2 h.2⟩,okN,bdec_t h1,decide_eq_false (by omega)]; simp
 ·rw [okB,bdec_f fun h=>h1 h.1,okN,bdec_f h1]; rfl
theorem implBigIntOk_fn (x:DB):Fn Tryz.prog 137 [⟨tBig,x⟩] false [⟨.bool,okB x⟩]:=by
 obtain ⟨s,l⟩:=x
 rw [okB_eq]
 cases hN:okN l<;>cases s
 all_goals
  refine fn_enter tabOK mixes Tryz.func137 rfl rfl _ Tryz.ntmps137 _ Tryz.results137 (by simp) fun hwf=>?_
  try simp (maxSteps:=9^9) only[go_sem]
  repeat refine And.intro (by first|omega|(constructor<;>omega)|kernel_rfl) ?_
  refine CallW.mk (implNatOk_fn l) ?_
  try simp (maxSteps:=9^9) only[go_sem]
  try simp (maxSteps:=9^9) only[go_sem,hN]
theorem specBigIntOk_fn (x:DB):Fn Tryz.prog 231 [⟨tBig,x⟩] false [⟨.bool,okB x⟩]:=by
 obtain ⟨s,l⟩:=x
 rw [okB_eq]
 by_cases hl:(l.length:Int)=0
 ·have hl2:¬ 0 < (l.length:Int):=by omega
  cases hN:okN l<;>cases s
  all_goals
   refine fn_enter tabOK mixes Tryz.func231 rfl rfl _ Tryz.ntmps231 _ Tryz.results231 (by simp) fun hwf=>?_
   try simp (maxSteps:=9^9) only[go_sem]
   repeat refine And.intro (by first|omega|(constructor<;>omega)|kernel_rfl) ?_
   refine CallW.mk (specNatOk_fn l) ?_
   try simp (maxSteps:=9^9) only[go_sem]
   try simp (maxSteps:=9^9) only[go_sem,hN,hl,hl2]
 ·have hl2:0 < (l.length:Int):=by omega
  cases hN:okN l<;>cases s
  all_goals
   refine fn_enter tabOK mixes Tryz.func231 rfl rfl _ Tryz.ntmps231 _ Tryz.results231 (by simp) fun hwf=>?_
   try simp (maxSteps:=9^9) only[go_sem]
   repeat refine And.intro (by first|omega|(constructor<;>omega)|kernel_rfl) ?_
   refine CallW.mk (specNatOk_fn l) ?_
   try simp (maxSteps:=9^9) only[go_sem]
   try simp (maxSteps:=9^9) only[go_sem,hN,hl,hl2]
theorem l02Cap_fn (n:Nat) (hn:nl n<=60):Fn Tryz.prog 303 [⟨tInts,natL n⟩] false [⟨tInts,natL n⟩]:=by
 have hA:¬ (60:Int) < nl n:=by omega
 have ht:=l02Trim_fn (natL n)
 rw [trimL_natL] at ht
 refine fn_enter tabOK mixes Tryz.func303 rfl rfl _ Tryz.ntmps303 _ Tryz.results303 (by simp) fun hwf=>?_
 try simp (maxSteps:=9^9) only[go_sem]
 repeat refine And.intro (by first|omega|(constructor<;>omega)|kernel_rfl) ?_
 refine CallW.mk (ht) ?_
 try simp (maxSteps:=9^9) only[go_sem]
 try simp (maxSteps:=9^9) only[go_sem,hA]
theorem l03Make_fn (s:Bool) (n:Nat) (hn:nl n<=60):Fn Tryz.prog 225 [⟨.bool,s⟩,⟨tInts,natL n⟩] true [⟨tBig,bigD (sgn s n)⟩]:=by
 rw [bigD_sgn]
 cases s
 ·refine fn_enter tabOK mixes Tryz.func225 rfl rfl _ Tryz.ntmps225 _ Tryz.results225 (by simp) fun hwf=>?_
  try simp (maxSteps:=9^9) only[go_sem]
  repeat refine And.intro (by first|omega|(constructor<;>omega)|kernel_rfl) ?_
  refine CallW.mk (l02Cap_fn n hn) ?_
  try simp (maxSteps:=9^9) only[go_sem]
  repeat refine And.intro (by first|omega|(constructor<;>omega)|kernel_rfl) ?_
  omega
 ·refine fn_enter tabOK mixes Tryz.func225 rfl rfl _ Tryz.ntmps225 _ Tryz.results225 (by simp) fun hwf=>?_
  try simp (maxSteps:=9^9) only[go_sem]
  repeat refine And.intro (by first|omega|(constructor<;>omega)|kernel_rfl) ?_
  refine CallW.mk (l02Cap_fn n hn) ?_
  try simp (maxSteps:=9^9) only[go_sem]
  repeat refine And.intro (by first|omega|(constructor<;>omega)|kernel_rfl) ?_
  simp only [nlpos]
theorem l03Make_to {s:Bool} {n:Nat} {z:Int} (h:sgn s n=z) (hn:nl n<=60):Fn Tryz.prog 225 [⟨.bool,s⟩,⟨tInts,natL n⟩] true [⟨tBig,bigD z⟩]:=h ▸ l03Make_fn s n hn
theorem l03Add_fn (x y:Int) (hx:nl x.natAbs<=59) (hy:nl y.natAbs<=59):Fn Tryz.prog 235 [⟨tBig,bigD x⟩,⟨tBig,bigD y⟩] true [⟨tBig,bigD (x+y)⟩]:=by
 have hl:=nl_add x.natAbs y.natAbs
 have hl1:=nl_mono (Nat.sub_le x.natAbs y.natAbs)
 have hl2:=nl_mono (Nat.sub_le y.natAbs x.natAbs)
 refine fn_enter tabOK mixes Tryz.func235 rfl rfl _ Tryz.ntmps235 _ Tryz.results235 (by simp) fun hwf=>?_
 try simp (maxSteps:=9^9) only[go_sem]
 refine CondW_b (fun h=>?_) (fun h=>?_)
 ·have hs:decide (x < 0)=decide (y < 0):=by simpa using h
  try simp (maxSteps:=9^9) only[go_sem]
  repeat refine And.intro (by first|omega|(constructor<;>omega)|kernel_rfl) ?_
  refine CallW.mk (l02Add_fn x.natAbs y.natAbs (by omega) (by omega)) ?_
  try simp (maxSteps:=9^9) only[go_sem]
  repeat refine And.intro (by first|omega|(constructor<;>omega)|kernel_rfl) ?_
  refine CallW.mk (l03Make_to (s:=decide (x < 0)) (n:=x.natAbs+y.natAbs) (z:=x+y) (by unfold sgn; by_cases h:x < 0<;>by_cases h2:y < 0<;>simp [h,h2] at hs ⊢<;>omega) (by omega)) ?_
  try simp (maxSteps:=9^9) only[go_sem]
  kernel_rfl
 ·have hs:decide (x < 0) ≠ decide (y < 0):=by simpa using h
  try simp (maxSteps:=9^9) only[go_sem]
  repeat refine And.intro (by first|omega|(constructor<;>omega)|kernel_rfl) ?_
  refine CallW.mk (l02Cmp_fn (natL x.natAbs) (natL y.natAbs)) ?_
  try simp (maxSteps:=9^9) only[go_sem]
  refine CondW_dec (fun hc=>?_) (fun hc=>?_)
  ·rw [cmpN_ge] at hc
   try simp (maxSteps:=9^9) only[go_sem]
   repeat refine And.intro (by first|omega|(constructor<;>omega)|kernel_rfl) ?_
   refine CallW.mk (l02Sub_fn x.natAbs y.natAbs hc (by omega)) ?_
   try simp (maxSteps:=9^9) only[go_sem]
   repeat refine And.intro (by first|omega|(constructor<;>omega)|kernel_rfl) ?_
   refine CallW.mk (l03Make_to (s:=decide (x < 0)) (n:=x.natAbs - y.natAbs) (z:=x+y) (by unfold sgn; by_cases h:x < 0<;>by_cases h2:y < 0<;>simp [h,h2] at hs ⊢<;>omega) (by omega)) ?_
   try simp (maxSteps:=9^9) only[go_sem]
   kernel_rfl
  ·rw [cmpN_ge] at hc
   try simp (maxSteps:=9^9) only[go_sem]
   repeat refine And.intro (by first|omega|(constructor<;>omega)|kernel_rfl) ?_
   refine CallW.mk (l02Sub_fn y.natAbs x.natAbs (by omega) (by omega)) ?_
   try simp (maxSteps:=9^9) only[go_sem]
   repeat refine And.intro (by first|omega|(constructor<;>omega)|kernel_rfl) ?_
   refine CallW.mk (l03Make_to (s:=decide (y < 0)) (n:=y.natAbs - x.natAbs) (z:=x+y) (by unfold sgn; by_cases h:x < 0<;>by_cases h2:y < 0<;>simp [h,h2] at hs ⊢<;>omega) (by omega)) ?_
   try simp (maxSteps:=9^9) only[go_sem]
   kernel_rfl
theorem l03Cmp_fn (x y:Int):Fn Tryz.prog 240 [⟨tBig,bigD x⟩,⟨tBig,bigD y⟩] false [⟨.int,cmpZ x y⟩]:=by
 by_cases hx:x < 0<;>by_cases hy:y < 0
 ·refine fn_enter tabOK mixes Tryz.func240 rfl rfl _ Tryz.ntmps240 _ Tryz.results240 (by simp) fun hwf=>?_
  try simp (maxSteps:=9^9) only[go_sem,hx,hy]
  repeat refine And.intro (by first|omega|(constructor<;>omega)|kernel_rfl) ?_
  refine CallW.mk (l02Cmp_fn (natL y.natAbs) (natL x.natAbs)) ?_
  try simp (maxSteps:=9^9) only[go_sem]
  exact cmpZ_nn hx hy
 ·refine fn_enter tabOK mixes Tryz.func240 rfl rfl _ Tryz.ntmps240 _ Tryz.results240 (by simp) fun hwf=>?_
  try simp (maxSteps:=9^9) only[go_sem,hx,hy]
  exact (cmpZ_np hx hy).symm
 ·refine fn_enter tabOK mixes Tryz.func240 rfl rfl _ Tryz.ntmps240 _ Tryz.results240 (by simp) fun hwf=>?_
  try simp (maxSteps:=9^9) only[go_sem,hx,hy]
  exact (cmpZ_pn hx hy).symm
 ·refine fn_enter tabOK mixes Tryz.func240 rfl rfl _ Tryz.ntmps240 _ Tryz.results240 (by simp) fun hwf=>?_
  try simp (maxSteps:=9^9) only[go_sem,hx,hy]
  repeat refine And.intro (by first|omega|(constructor<;>omega)|kernel_rfl) ?_
  refine CallW.mk (l02Cmp_fn (natL x.natAbs) (natL y.natAbs)) ?_
  try simp (maxSteps:=9^9) only[go_sem]
  exact cmpZ_pp hx hy
end Go.Proofs.YtffdhjnbppagjaaGreat.DW

namespace Go.Proofs.YtffdhjnbppagjaaGreat.DW
open Go.RowKit
@[go_sem] theorem oD_s (q:Rat):oD (some q)=ratD q:=(rfl)
@[go_sem] theorem oD_n:oD none=rZ:=(rfl)
attribute [go_sem] ratD rZ bZ
theorem one_iff {n:Nat}:((nl n:Int)=1/\(dg n 0:Int)=1) ↔ n=1:=by
 constructor
 ·rintro ⟨h1,h2⟩
  have:=dg_one (b:=n) (by omega)
  omega
 ·rintro rfl
  have h:nl 1=1:=by rw [nl_pos (by decide),show 1 / 1000000000=0 from rfl,nl_zero]
  exact ⟨by omega,by have:=dg_one h; omega⟩
theorem isOne_fn (n:Nat):Fn Tryz.prog 139 [⟨tInts,natL n⟩] false [⟨.bool,decide (n=1)⟩]:=by
 by_cases h1:(nl n:Int)=1
 ·have hiff:=@one_iff n
  refine fn_enter tabOK mixes Tryz.func139 rfl rfl _ Tryz.ntmps139 _ Tryz.results139 (by simp) fun hwf=>?_
  try simp (maxSteps:=9^9) only[go_sem,h1]
  repeat refine And.intro (by first|omega|(constructor<;>omega)|kernel_rfl) ?_
  rw [decide_eq_decide]; omega
 ·have hn:n ≠ 1:=fun h=>h1 (one_iff.2 h).1
  refine fn_enter tabOK mixes Tryz.func139 rfl rfl _ Tryz.ntmps139 _ Tryz.results139 (by simp) fun hwf=>?_
  try simp (maxSteps:=9^9) only[go_sem,h1]
  simp [hn]
theorem l04One_fn (n:Nat):Fn Tryz.prog 233 [⟨tInts,natL n⟩] false [⟨.bool,decide (n=1)⟩]:=by
 by_cases h1:(nl n:Int)=1
 ·have hiff:=@one_iff n
  refine fn_enter tabOK mixes Tryz.func233 rfl rfl _ Tryz.ntmps233 _ Tryz.results233 (by simp) fun hwf=>?_
  try simp (maxSteps:=9^9) only[go_sem,h1]
  repeat refine And.intro (by first|omega|(constructor<;>omega)|kernel_rfl) ?_
  rw [decide_eq_decide]; omega
 ·have hn:n ≠ 1:=fun h=>h1 (one_iff.2 h).1
  refine fn_enter tabOK mixes Tryz.func233 rfl rfl _ Tryz.ntmps233 _ Tryz.results233 (by simp) fun hwf=>?_
  try simp (maxSteps:=9^9) only[go_sem,h1]
  simp [hn]
theorem bool_ext' {a b:Bool} (h:a=true ↔ b=true):a=b:=by cases a<;>cases b<;>simp_all
theorem okB_iff {x:DB}:okB x=true ↔ okBP x:=by
 constructor
 ·intro h; exact Classical.byContradiction fun hn=>by rw [okB,bdec_f hn] at h; cases h
 ·exact fun h=>bdec_t h
theorem okN_iff {l:List Int}:okN l=true ↔ okNP l:=by
 constructor
 ·intro h; exact Classical.byContradiction fun hn=>by rw [okN,bdec_f hn] at h; cases h
 ·exact fun h=>bdec_t h
theorem okR_eq (x:DB) (d:List Int):okR (x,d)=(okB x && okN d && !decide ((d.length:Int)=0) && !decide (24 < (x.2.length:Int)) && !decide (24 < (d.length:Int)) && decide (Nat.gcd (val x.2) (val d)=1)):=by
 apply bool_ext'
 rw [okR_iff]
 simp only [Bool.and_eq_true,okB_iff,okN_iff,Bool.not_eq_true',decide_eq_false_iff_not,decide_eq_true_eq,and_assoc]
 constructor
 ·rintro ⟨h1,h2,h3,h4,h5,h6⟩
  refine ⟨h1,h2,fun h=>h3 (List.eq_nil_of_length_eq_zero (by omega)),by omega,by omega,h6⟩
 ·rintro ⟨h1,h2,h3,h4,h5,h6⟩
  refine ⟨h1,h2,fun h=>h3 (by rw [h]; rfl),by omega,by omega,h6⟩
theorem implRatOk_fn (r:DR):Fn Tryz.prog 60 [⟨tRat,r⟩] false [⟨.bool,okR r⟩]:=by
 obtain ⟨x,d⟩:=r
 rw [okR_eq]
 cases h1:okB x
 ·refine fn_enter tabOK mixes Tryz.func60 rfl rfl _ Tryz.ntmps60 _ Tryz.results60 (by simp) fun hwf=>?_
  try simp (maxSteps:=9^9) only[go_sem]
  repeat refine And.intro (by first|omega|(constructor<;>omega)|kernel_rfl) ?_
  refine CallW.mk (implBigIntOk_fn x) ?_
  try simp (maxSteps:=9^9) only[go_sem]
  try simp (maxSteps:=9^9) only[go_sem,h1]
 cases h2:okN d
 ·refine fn_enter tabOK mixes Tryz.func60 rfl rfl _ Tryz.ntmps60 _ Tryz.results60 (by simp) fun hwf=>?_
  try simp (maxSteps:=9^9) only[go_sem]
  repeat refine And.intro (by first|omega|(constructor<;>omega)|kernel_rfl) ?_
  refine CallW.mk (implBigIntOk_fn x) ?_
  try simp (maxSteps:=9^9) only[go_sem]
  try simp (maxSteps:=9^9) only[go_sem,h1]
  repeat refine And.intro (by first|omega|(constructor<;>omega)|kernel_rfl) ?_
  refine CallW.mk (implNatOk_fn d) ?_
  try simp (maxSteps:=9^9) only[go_sem]
  try simp (maxSteps:=9^9) only[go_sem,h2]
 by_cases h3:(d.length:Int)=0
 ·refine fn_enter tabOK mixes Tryz.func60 rfl rfl _ Tryz.ntmps60 _ Tryz.results60 (by simp) fun hwf=>?_
  try simp (maxSteps:=9^9) only[go_sem]
  repeat refine And.intro (by first|omega|(constructor<;>omega)|kernel_rfl) ?_
  refine CallW.mk (implBigIntOk_fn x) ?_
  try simp (maxSteps:=9^9) only[go_sem]
  try simp (maxSteps:=9^9) only[go_sem,h1]
  repeat refine And.intro (by first|omega|(constructor<;>omega)|kernel_rfl) ?_
  refine CallW.mk (implNatOk_fn d) ?_
  try simp (maxSteps:=9^9) only[go_sem]
  try simp (maxSteps:=9^9) only[go_sem,h2,h3]
 by_cases h4:24 < (x.2.length:Int)
 ·refine fn_enter tabOK mixes Tryz.func60 rfl rfl _ Tryz.ntmps60 _ Tryz.results60 (by simp) fun hwf=>?_
  try simp (maxSteps:=9^9) only[go_sem]
  repeat refine And.intro (by first|omega|(constructor<;>omega)|kernel_rfl) ?_
  refine CallW.mk (implBigIntOk_fn x) ?_
  try simp (maxSteps:=9^9) only[go_sem]
  try simp (maxSteps:=9^9) only[go_sem,h1]
  repeat refine And.intro (by first|omega|(constructor<;>omega)|kernel_rfl) ?_
  refine CallW.mk (implNatOk_fn d) ?_
  try simp (maxSteps:=9^9) only[go_sem]
  try simp (maxSteps:=9^9) only[go_sem,h2,h3,h4]
 by_cases h5:24 < (d.length:Int)
 ·refine fn_enter tabOK mixes Tryz.func60 rfl rfl _ Tryz.ntmps60 _ Tryz.results60 (by simp) fun hwf=>?_
  try simp (maxSteps:=9^9) only[go_sem]
  repeat refine And.intro (by first|omega|(constructor<;>omega)|kernel_rfl) ?_
  refine CallW.mk (implBigIntOk_fn x) ?_
  try simp (maxSteps:=9^9) only[go_sem]
  try simp (maxSteps:=9^9) only[go_sem,h1]
  repeat refine And.intro (by first|omega|(constructor<;>omega)|kernel_rfl) ?_
  refine CallW.mk (implNatOk_fn d) ?_
  try simp (maxSteps:=9^9) only[go_sem]
  try simp (maxSteps:=9^9) only[go_sem,h2,h3,h4,h5]
 obtain ⟨z,rfl,_⟩:=okBP_iff.1 (okB_iff.1 h1)
 obtain ⟨n,rfl,_⟩:=okNP_iff.1 (okN_iff.1 h2)
 have h1':okB (decide (z < 0),natL z.natAbs)=true:=h1
 have h3':¬ (nl n:Int)=0:=h3
 have h4':¬ 24 < (nl z.natAbs:Int):=h4
 have h5':¬ 24 < (nl n:Int):=h5
 have hv:val (bigD z).2=z.natAbs:=val_natL _
 rw [hv,val_natL]
 by_cases hn:n=1
 ·refine fn_enter tabOK mixes Tryz.func60 rfl rfl _ Tryz.ntmps60 _ Tryz.results60 (by simp) fun hwf=>?_
  try simp (maxSteps:=9^9) only[go_sem]
  repeat refine And.intro (by first|omega|(constructor<;>omega)|kernel_rfl) ?_
  refine CallW.mk (implBigIntOk_fn (bigD z)) ?_
  try simp (maxSteps:=9^9) only[go_sem]
  try simp (maxSteps:=9^9) only[go_sem,h1']
  repeat refine And.intro (by first|omega|(constructor<;>omega)|kernel_rfl) ?_
  refine CallW.mk (implNatOk_fn (natL n)) ?_
  try simp (maxSteps:=9^9) only[go_sem]
  try simp (maxSteps:=9^9) only[go_sem,h2,h3',h4',h5']
  repeat refine And.intro (by first|omega|(constructor<;>omega)|kernel_rfl) ?_
  refine CallW.mk (isOne_fn n) ?_
  try simp (maxSteps:=9^9) only[go_sem]
  try simp (maxSteps:=9^9) only[go_sem,hn]
  simp
 ·refine fn_enter tabOK mixes Tryz.func60 rfl rfl _ Tryz.ntmps60 _ Tryz.results60 (by simp) fun hwf=>?_
  try simp (maxSteps:=9^9) only[go_sem]
  repeat refine And.intro (by first|omega|(constructor<;>omega)|kernel_rfl) ?_
  refine CallW.mk (implBigIntOk_fn (bigD z)) ?_
  try simp (maxSteps:=9^9) only[go_sem]
  try simp (maxSteps:=9^9) only[go_sem,h1']
  repeat refine And.intro (by first|omega|(constructor<;>omega)|kernel_rfl) ?_
  refine CallW.mk (implNatOk_fn (natL n)) ?_
  try simp (maxSteps:=9^9) only[go_sem]
  try simp (maxSteps:=9^9) only[go_sem,h2,h3',h4',h5']
  repeat refine And.intro (by first|omega|(constructor<;>omega)|kernel_rfl) ?_
  refine CallW.mk (isOne_fn n) ?_
  try simp (maxSteps:=9^9) only[go_sem]
  try simp (maxSteps:=9^9) only[go_sem,hn]
  repeat refine And.intro (by first|omega|(constructor<;>omega)|kernel_rfl) ?_
  refine CallW.mk (natGcd_fn z.natAbs n (by omega) (by omega)) ?_
  try simp (maxSteps:=9^9) only[go_sem]
  repeat refine And.intro (by first|omega|(constructor<;>omega)|kernel_rfl) ?_
  refine CallW.mk (isOne_fn (Nat.gcd z.natAbs n)) ?_
  try simp (maxSteps:=9^9) only[go_sem]
theorem specRatOk_fn (r:DR):Fn Tryz.prog 150 [⟨tRat,r⟩] false [⟨.bool,okR r⟩]:=by
 obtain ⟨x,d⟩:=r
 rw [okR_eq]
 cases h1:okB x
 ·refine fn_enter tabOK mixes Tryz.func150 rfl rfl _ Tryz.ntmps150 _ Tryz.results150 (by simp) fun hwf=>?_
  try simp (maxSteps:=9^9) only[go_sem]
  repeat refine And.intro (by first|omega|(constructor<;>omega)|kernel_rfl) ?_
  refine CallW.mk (specBigIntOk_fn x) ?_
  try simp (maxSteps:=9^9) only[go_sem]
  try simp (maxSteps:=9^9) only[go_sem,h1]
 cases h2:okN d
 ·refine fn_enter tabOK mixes Tryz.func150 rfl rfl _ Tryz.ntmps150 _ Tryz.results150 (by simp) fun hwf=>?_
  try simp (maxSteps:=9^9) only[go_sem]
  repeat refine And.intro (by first|omega|(constructor<;>omega)|kernel_rfl) ?_
  refine CallW.mk (specBigIntOk_fn x) ?_
  try simp (maxSteps:=9^9) only[go_sem]
  try simp (maxSteps:=9^9) only[go_sem,h1]
  repeat refine And.intro (by first|omega|(constructor<;>omega)|kernel_rfl) ?_
  refine CallW.mk (specNatOk_fn d) ?_
  try simp (maxSteps:=9^9) only[go_sem]
  try simp (maxSteps:=9^9) only[go_sem,h2]
 by_cases h3:(d.length:Int)=0
 ·refine fn_enter tabOK mixes Tryz.func150 rfl rfl _ Tryz.ntmps150 _ Tryz.results150 (by simp) fun hwf=>?_
  try simp (maxSteps:=9^9) only[go_sem]
  repeat refine And.intro (by first|omega|(constructor<;>omega)|kernel_rfl) ?_
  refine CallW.mk (specBigIntOk_fn x) ?_
  try simp (maxSteps:=9^9) only[go_sem]
  try simp (maxSteps:=9^9) only[go_sem,h1]
  repeat refine And.intro (by first|omega|(constructor<;>omega)|kernel_rfl) ?_
  refine CallW.mk (specNatOk_fn d) ?_
  try simp (maxSteps:=9^9) only[go_sem]
  try simp (maxSteps:=9^9) only[go_sem,h2,h3]
 by_cases h5:24 < (d.length:Int)
 ·refine fn_enter tabOK mixes Tryz.func150 rfl rfl _ Tryz.ntmps150 _ Tryz.results150 (by simp) fun hwf=>?_
  try simp (maxSteps:=9^9) only[go_sem]
  repeat refine And.intro (by first|omega|(constructor<;>omega)|kernel_rfl) ?_
  refine CallW.mk (specBigIntOk_fn x) ?_
  try simp (maxSteps:=9^9) only[go_sem]
  try simp (maxSteps:=9^9) only[go_sem,h1]
  repeat refine And.intro (by first|omega|(constructor<;>omega)|kernel_rfl) ?_
  refine CallW.mk (specNatOk_fn d) ?_
  try simp (maxSteps:=9^9) only[go_sem]
  try simp (maxSteps:=9^9) only[go_sem,h2,h3,h5]
 by_cases h4:24 < (x.2.length:Int)
 ·refine fn_enter tabOK mixes Tryz.func150 rfl rfl _ Tryz.ntmps150 _ Tryz.results150 (by simp) fun hwf=>?_
  try simp (maxSteps:=9^9) only[go_sem]
  repeat refine And.intro (by first|omega|(constructor<;>omega)|kernel_rfl) ?_
  refine CallW.mk (specBigIntOk_fn x) ?_
  try simp (maxSteps:=9^9) only[go_sem]
  try simp (maxSteps:=9^9) only[go_sem,h1]
  repeat refine And.intro (by first|omega|(constructor<;>omega)|kernel_rfl) ?_
  refine CallW.mk (specNatOk_fn d) ?_
  try simp (maxSteps:=9^9) only[go_sem]
  try simp (maxSteps:=9^9) only[go_sem,h2,h3,h5,h4]
 obtain ⟨z,rfl,_⟩:=okBP_iff.1 (okB_iff.1 h1)
 obtain ⟨n,rfl,_⟩:=okNP_iff.1 (okN_iff.1 h2)
 have h1':okB (decide (z < 0),natL z.natAbs)=true:=h1
 have h3':¬ (nl n:Int)=0:=h3
 have h4':¬ 24 < (nl z.natAbs:Int):=h4
 have h5':¬ 24 < (nl n:Int):=h5
 have hv:val (bigD z).2=z.natAbs:=val_natL _
 rw [hv,val_natL]
 refine fn_enter tabOK mixes Tryz.func150 rfl rfl _ Tryz.ntmps150 _ Tryz.results150 (by simp) fun hwf=>?_
 try simp (maxSteps:=9^9) only[go_sem]
 repeat refine And.intro (by first|omega|(constructor<;>omega)|kernel_rfl) ?_
 refine CallW.mk (specBigIntOk_fn (bigD z)) ?_
 try simp (maxSteps:=9^9) only[go_sem]
 try simp (maxSteps:=9^9) only[go_sem,h1']
 repeat refine And.intro (by first|omega|(constructor<;>omega)|kernel_rfl) ?_
 refine CallW.mk (specNatOk_fn (natL n)) ?_
 try simp (maxSteps:=9^9) only[go_sem]
 try simp (maxSteps:=9^9) only[go_sem,h2,h3',h4',h5']
 repeat refine And.intro (by first|omega|(constructor<;>omega)|kernel_rfl) ?_
 refine CallW.mk (l02Gcd_fn z.natAbs n (by omega) (by omega)) ?_
 try simp (maxSteps:=9^9) only[go_sem]
 repeat refine And.intro (by first|omega|(constructor<;>omega)|kernel_rfl) ?_
 refine CallW.mk (l04One_fn (Nat.gcd z.natAbs n)) ?_
 try simp (maxSteps:=9^9) only[go_sem]
theorem isGood_fn (x:Option Rat):Fn Tryz.prog 208 [⟨tRat,oD x⟩] false [⟨.bool,x.isSome⟩]:=by
 cases x with
 | none =>
  refine fn_enter tabOK mixes Tryz.func208 rfl rfl _ Tryz.ntmps208 _ Tryz.results208 (by simp) fun hwf=>?_
  try simp (maxSteps:=9^9) only[go_sem]
  rfl
 | some q =>
  have h:(0:Int) < nl q.den:=nlpos.2 (den_pos' q)
  refine fn_enter tabOK mixes Tryz.func208 rfl rfl _ Tryz.ntmps208 _ Tryz.results208 (by simp) fun hwf=>?_
  try simp (maxSteps:=9^9) only[go_sem,h]
end Go.Proofs.YtffdhjnbppagjaaGreat.DW

namespace Go.Proofs.YtffdhjnbppagjaaGreat.DW
open Go.RowKit
theorem capR_data {q:Rat} (h:small q):oD (capR q)=((decide (q.num < 0),natL q.num.natAbs),natL q.den):=by rw [capR_s h]; rfl
theorem capR_none {q:Rat} (h:¬ small q):oD (capR q)=((false,[]),[]):=by rw [capR_n h]; rfl
theorem bigMulN_fn (x:Int) (n:Nat) (hx:nl x.natAbs<=10000) (hy:nl n<=10000):Fn Tryz.prog 212 [⟨tBig,bigD x⟩,⟨tBig,(false,natL n)⟩] false [⟨tBig,bigD (x * n)⟩]:=by
 have:=bigMul_fn x n hx (by simpa using hy)
 rw [bigD_nat] at this
 exact this
theorem ratMake_end (z:Int) (n:Nat) (hn:n ≠ 0) (hz:nl z.natAbs<=10000) (hnl:nl n<=10000):Fn Tryz.prog 289 [⟨tBig,bigD z⟩,⟨tInts,natL n⟩] true [⟨tRat,oD (capR (_root_.mkRat z n))⟩]:=by
 obtain ⟨m1,m2,m3⟩:=mk_abs (z:=z) hn
 generalize hq:_root_.mkRat z n=q at *
 have hg0:0 < Nat.gcd z.natAbs n:=Nat.gcd_pos_of_pos_right _ (Nat.pos_of_ne_zero hn)
 have hl1:=nl_mono (Nat.div_le_self z.natAbs (Nat.gcd z.natAbs n))
 have hl2:=nl_mono (Nat.div_le_self n (Nat.gcd z.natAbs n))
 have hl3:=nl_mono (Nat.gcd_le_right z.natAbs (Nat.pos_of_ne_zero hn))
 rw [<-m1] at hl1
 rw [<-m2] at hl2
 have hpath:(decide (n=1)=true/\z.natAbs=q.num.natAbs/\n=q.den)\/(decide (n=1)=false/\decide (Nat.gcd z.natAbs n=1)=true/\z.natAbs=q.num.natAbs/\n=q.den)\/(decide (n=1)=false/\decide (Nat.gcd z.natAbs n=1)=false):=by
  by_cases h1:n=1
  ·refine .inl ⟨decide_eq_true h1,?_,?_⟩
   ·rw [m1,h1,Nat.gcd_one_right,Nat.div_one]
   ·rw [m2,h1,Nat.gcd_one_right,Nat.div_one]
  ·by_cases h2:Nat.gcd z.natAbs n=1
   ·exact .inr (.inl ⟨decide_eq_false h1,decide_eq_true h2,by rw [m1,h2,Nat.div_one],by rw [m2,h2,Nat.div_one]⟩)
   ·exact .inr (.inr ⟨decide_eq_false h1,decide_eq_false h2⟩)
 have hcn:=clone_fn (natL q.den) (by show nl q.den<=16777216; omega)
 have hob:small q->Fn Tryz.prog 338 [⟨tBig,(decide (z < 0),natL q.num.natAbs)⟩] true [⟨tBig,(decide (z < 0),natL q.num.natAbs)⟩]:=fun hs=>by
  have:=ownBig_fn q.num (by have:=hs.1; omega)
  unfold bigD at this
  rw [m3] at this
  exact this
 have hend:small q\/(24:Int) < nl q.num.natAbs\/(¬ (24:Int) < nl q.num.natAbs/\(24:Int) < nl q.den):=by unfold small; omega
 rcases hpath with ⟨hd,e1,e2⟩|⟨hd,hd2,e1,e2⟩|⟨hd,hd2⟩
 ·rcases hend with hs|hA|⟨hA,hB⟩
  ·rw [capR_data hs,m3]
   have hA:¬ (24:Int) < nl q.num.natAbs:=by have:=hs.1; omega
   have hB:¬ (24:Int) < nl q.den:=by have:=hs.2; omega
   have hob:=hob hs
   rw [<-e1] at hA hob; rw [<-e2] at hB hcn; rw [<-e1,<-e2]
   refine fn_enter tabOK mixes Tryz.func289 rfl rfl _ Tryz.ntmps289 _ Tryz.results289 (by simp) fun hwf=>?_
   try simp (maxSteps:=9^9) only[go_sem]
   repeat refine And.intro (by first|omega|(constructor<;>omega)|kernel_rfl) ?_
   refine CallW.mk (isOne_fn n) ?_
   try simp (maxSteps:=9^9) only[go_sem]
   try simp (maxSteps:=9^9) only[go_sem,hd,hA,hB]
   repeat refine And.intro (by first|omega|(constructor<;>omega)|kernel_rfl) ?_
   refine CallW.mk (hob) ?_
   try simp (maxSteps:=9^9) only[go_sem]
   repeat refine And.intro (by first|omega|(constructor<;>omega)|kernel_rfl) ?_
   refine CallW.mk (hcn) ?_
   try simp (maxSteps:=9^9) only[go_sem]
  ·rw [capR_none (by unfold small; omega)]
   rw [<-e1] at hA
   refine fn_enter tabOK mixes Tryz.func289 rfl rfl _ Tryz.ntmps289 _ Tryz.results289 (by simp) fun hwf=>?_
   try simp (maxSteps:=9^9) only[go_sem]
   repeat refine And.intro (by first|omega|(constructor<;>omega)|kernel_rfl) ?_
   refine CallW.mk (isOne_fn n) ?_
   try simp (maxSteps:=9^9) only[go_sem]
   try simp (maxSteps:=9^9) only[go_sem,hd,hA]
  ·rw [capR_none (by unfold small; omega)]
   rw [<-e1] at hA; rw [<-e2] at hB
   refine fn_enter tabOK mixes Tryz.func289 rfl rfl _ Tryz.ntmps289 _ Tryz.results289 (by simp) fun hwf=>?_
   try simp (maxSteps:=9^9) only[go_sem]
   repeat refine And.intro (by first|omega|(constructor<;>omega)|kernel_rfl) ?_
   refine CallW.mk (isOne_fn n) ?_
   try simp (maxSteps:=9^9) only[go_sem]
   try simp (maxSteps:=9^9) only[go_sem,hd,hA,hB]
 ·rcases hend with hs|hA|⟨hA,hB⟩
  ·rw [capR_data hs,m3]
   have hA:¬ (24:Int) < nl q.num.natAbs:=by have:=hs.1; omega
   have hB:¬ (24:Int) < nl q.den:=by have:=hs.2; omega
   have hob:=hob hs
   rw [<-e1] at hA hob; rw [<-e2] at hB hcn; rw [<-e1,<-e2]
   refine fn_enter tabOK mixes Tryz.func289 rfl rfl _ Tryz.ntmps289 _ Tryz.results289 (by simp) fun hwf=>?_
   try simp (maxSteps:=9^9) only[go_sem]
   repeat refine And.intro (by first|omega|(constructor<;>omega)|kernel_rfl) ?_
   refine CallW.mk (isOne_fn n) ?_
   try simp (maxSteps:=9^9) only[go_sem]
   try simp (maxSteps:=9^9) only[go_sem,hd]
   repeat refine And.intro (by first|omega|(constructor<;>omega)|kernel_rfl) ?_
   refine CallW.mk (natGcd_fn z.natAbs n (by omega) (by omega)) ?_
   try simp (maxSteps:=9^9) only[go_sem]
   repeat refine And.intro (by first|omega|(constructor<;>omega)|kernel_rfl) ?_
   refine CallW.mk (isOne_fn (Nat.gcd z.natAbs n)) ?_
   try simp (maxSteps:=9^9) only[go_sem]
   try simp (maxSteps:=9^9) only[go_sem,hd2,hA,hB]
   repeat refine And.intro (by first|omega|(constructor<;>omega)|kernel_rfl) ?_
   refine CallW.mk (hob) ?_
   try simp (maxSteps:=9^9) only[go_sem]
   repeat refine And.intro (by first|omega|(constructor<;>omega)|kernel_rfl) ?_
   refine CallW.mk (hcn) ?_
   try simp (maxSteps:=9^9) only[go_sem]
  ·rw [capR_none (by unfold small; omega)]
   rw [<-e1] at hA
   refine fn_enter tabOK mixes Tryz.func289 rfl rfl _ Tryz.ntmps289 _ Tryz.results289 (by simp) fun hwf=>?_
   try simp (maxSteps:=9^9) only[go_sem]
   repeat refine And.intro (by first|omega|(constructor<;>omega)|kernel_rfl) ?_
   refine CallW.mk (isOne_fn n) ?_
   try simp (maxSteps:=9^9) only[go_sem]
   try simp (maxSteps:=9^9) only[go_sem,hd]
   repeat refine And.intro (by first|omega|(constructor<;>omega)|kernel_rfl) ?_
   refine CallW.mk (natGcd_fn z.natAbs n (by omega) (by omega)) ?_
   try simp (maxSteps:=9^9) only[go_sem]
   repeat refine And.intro (by first|omega|(constructor<;>omega)|kernel_rfl) ?_
   refine CallW.mk (isOne_fn (Nat.gcd z.natAbs n)) ?_
   try simp (maxSteps:=9^9) only[go_sem]
   try simp (maxSteps:=9^9) only[go_sem,hd2,hA]
  ·rw [capR_none (by unfold small; omega)]
   rw [<-e1] at hA; rw [<-e2] at hB
   refine fn_enter tabOK mixes Tryz.func289 rfl rfl _ Tryz.ntmps289 _ Tryz.results289 (by simp) fun hwf=>?_
   try simp (maxSteps:=9^9) only[go_sem]
   repeat refine And.intro (by first|omega|(constructor<;>omega)|kernel_rfl) ?_
   refine CallW.mk (isOne_fn n) ?_
   try simp (maxSteps:=9^9) only[go_sem]
   try simp (maxSteps:=9^9) only[go_sem,hd]
   repeat refine And.intro (by first|omega|(constructor<;>omega)|kernel_rfl) ?_
   refine CallW.mk (natGcd_fn z.natAbs n (by omega) (by omega)) ?_
   try simp (maxSteps:=9^9) only[go_sem]
   repeat refine And.intro (by first|omega|(constructor<;>omega)|kernel_rfl) ?_
   refine CallW.mk (isOne_fn (Nat.gcd z.natAbs n)) ?_
   try simp (maxSteps:=9^9) only[go_sem]
   try simp (maxSteps:=9^9) only[go_sem,hd2,hA,hB]
 ·rcases hend with hs|hA|⟨hA,hB⟩
  ·rw [capR_data hs,m3]
   have hA:¬ (24:Int) < nl q.num.natAbs:=by have:=hs.1; omega
   have hB:¬ (24:Int) < nl q.den:=by have:=hs.2; omega
   have hob:=hob hs
   refine fn_enter tabOK mixes Tryz.func289 rfl rfl _ Tryz.ntmps289 _ Tryz.results289 (by simp) fun hwf=>?_
   try simp (maxSteps:=9^9) only[go_sem]
   repeat refine And.intro (by first|omega|(constructor<;>omega)|kernel_rfl) ?_
   refine CallW.mk (isOne_fn n) ?_
   try simp (maxSteps:=9^9) only[go_sem]
   try simp (maxSteps:=9^9) only[go_sem,hd]
   repeat refine And.intro (by first|omega|(constructor<;>omega)|kernel_rfl) ?_
   refine CallW.mk (natGcd_fn z.natAbs n (by omega) (by omega)) ?_
   try simp (maxSteps:=9^9) only[go_sem]
   repeat refine And.intro (by first|omega|(constructor<;>omega)|kernel_rfl) ?_
   refine CallW.mk (isOne_fn (Nat.gcd z.natAbs n)) ?_
   try simp (maxSteps:=9^9) only[go_sem]
   try simp (maxSteps:=9^9) only[go_sem,hd2]
   have c1:=natDiv_fn z.natAbs (Nat.gcd z.natAbs n) hg0 (by omega) (by omega)
   rw [<-m1] at c1
   repeat refine And.intro (by first|omega|(constructor<;>omega)|kernel_rfl) ?_
   refine CallW.mk (c1) ?_
   try simp (maxSteps:=9^9) only[go_sem]
   have c2:=natDiv_fn n (Nat.gcd z.natAbs n) hg0 (by omega) (by omega)
   rw [<-m2] at c2
   repeat refine And.intro (by first|omega|(constructor<;>omega)|kernel_rfl) ?_
   refine CallW.mk (c2) ?_
   try simp (maxSteps:=9^9) only[go_sem]
   try simp (maxSteps:=9^9) only[go_sem,hA,hB]
   repeat refine And.intro (by first|omega|(constructor<;>omega)|kernel_rfl) ?_
   refine CallW.mk (hob) ?_
   try simp (maxSteps:=9^9) only[go_sem]
   repeat refine And.intro (by first|omega|(constructor<;>omega)|kernel_rfl) ?_
   refine CallW.mk (hcn) ?_
   try simp (maxSteps:=9^9) only[go_sem]
  ·rw [capR_none (by unfold small; omega)]
   refine fn_enter tabOK mixes Tryz.func289 rfl rfl _ Tryz.ntmps289 _ Tryz.results289 (by simp) fun hwf=>?_
   try simp (maxSteps:=9^9) only[go_sem]
   repeat refine And.intro (by first|omega|(constructor<;>omega)|kernel_rfl) ?_
   refine CallW.mk (isOne_fn n) ?_
   try simp (maxSteps:=9^9) only[go_sem]
   try simp (maxSteps:=9^9) only[go_sem,hd]
   repeat refine And.intro (by first|omega|(constructor<;>omega)|kernel_rfl) ?_
   refine CallW.mk (natGcd_fn z.natAbs n (by omega) (by omega)) ?_
   try simp (maxSteps:=9^9) only[go_sem]
   repeat refine And.intro (by first|omega|(constructor<;>omega)|kernel_rfl) ?_
   refine CallW.mk (isOne_fn (Nat.gcd z.natAbs n)) ?_
   try simp (maxSteps:=9^9) only[go_sem]
   try simp (maxSteps:=9^9) only[go_sem,hd2]
   have c1:=natDiv_fn z.natAbs (Nat.gcd z.natAbs n) hg0 (by omega) (by omega)
   rw [<-m1] at c1
   repeat refine And.intro (by first|omega|(constructor<;>omega)|kernel_rfl) ?_
   refine CallW.mk (c1) ?_
   try simp (maxSteps:=9^9) only[go_sem]
   have c2:=natDiv_fn n (Nat.gcd z.natAbs n) hg0 (by omega) (by omega)
   rw [<-m2] at c2
   repeat refine And.intro (by first|omega|(constructor<;>omega)|kernel_rfl) ?_
   refine CallW.mk (c2) ?_
   try simp (maxSteps:=9^9) only[go_sem]
   try simp (maxSteps:=9^9) only[go_sem,hA]
  ·rw [capR_none (by unfold small; omega)]
   refine fn_enter tabOK mixes Tryz.func289 rfl rfl _ Tryz.ntmps289 _ Tryz.results289 (by simp) fun hwf=>?_
   try simp (maxSteps:=9^9) only[go_sem]
   repeat refine And.intro (by first|omega|(constructor<;>omega)|kernel_rfl) ?_
   refine CallW.mk (isOne_fn n) ?_
   try simp (maxSteps:=9^9) only[go_sem]
   try simp (maxSteps:=9^9) only[go_sem,hd]
   repeat refine And.intro (by first|omega|(constructor<;>omega)|kernel_rfl) ?_
   refine CallW.mk (natGcd_fn z.natAbs n (by omega) (by omega)) ?_
   try simp (maxSteps:=9^9) only[go_sem]
   repeat refine And.intro (by first|omega|(constructor<;>omega)|kernel_rfl) ?_
   refine CallW.mk (isOne_fn (Nat.gcd z.natAbs n)) ?_
   try simp (maxSteps:=9^9) only[go_sem]
   try simp (maxSteps:=9^9) only[go_sem,hd2]
   have c1:=natDiv_fn z.natAbs (Nat.gcd z.natAbs n) hg0 (by omega) (by omega)
   rw [<-m1] at c1
   repeat refine And.intro (by first|omega|(constructor<;>omega)|kernel_rfl) ?_
   refine CallW.mk (c1) ?_
   try simp (maxSteps:=9^9) only[go_sem]
   have c2:=natDiv_fn n (Nat.gcd z.natAbs n) hg0 (by omega) (by omega)
   rw [<-m2] at c2
   repeat refine And.intro (by first|omega|(constructor<;>omega)|kernel_rfl) ?_
   refine CallW.mk (c2) ?_
   try simp (maxSteps:=9^9) only[go_sem]
   try simp (maxSteps:=9^9) only[go_sem,hA,hB]
theorem sgn_abs (s:Bool) (a:Nat):(sgn s a).natAbs=a:=by unfold sgn; split<;>omega
theorem sgn_neg (s:Bool) (a:Nat):decide (sgn s a < 0)=(s && decide (0 < a)):=by
 unfold sgn
 cases s
 ·simp
 ·simp<;>omega
theorem l04Low_fn (s:Bool) (a b:Nat) (hb:b ≠ 0) (ha:nl a<=60) (hbl:nl b<=60):Fn Tryz.prog 236 [⟨.bool,s⟩,⟨tInts,natL a⟩,⟨tInts,natL b⟩] true [⟨tRat,oD (capR (_root_.mkRat (sgn s a) b))⟩]:=by
 obtain ⟨m1,m2,m3⟩:=mk_abs (z:=sgn s a) hb
 rw [sgn_abs] at m1 m2
 rw [sgn_neg] at m3
 generalize hq:_root_.mkRat (sgn s a) b=q at *
 have hg0:0 < Nat.gcd a b:=Nat.gcd_pos_of_pos_right _ (Nat.pos_of_ne_zero hb)
 have hl1:=nl_mono (Nat.div_le_self a (Nat.gcd a b))
 have hl2:=nl_mono (Nat.div_le_self b (Nat.gcd a b))
 have hl3:=nl_mono (Nat.gcd_le_right a (Nat.pos_of_ne_zero hb))
 rw [<-m1] at hl1
 rw [<-m2] at hl2
 have hb0:¬ (nl b:Int)=0:=fun h=>hb (nl_eq_zero.1 (by omega))
 have ht1:=l02Trim_fn (natL a)
 rw [trimL_natL] at ht1
 have ht2:=l02Trim_fn (natL b)
 rw [trimL_natL] at ht2
 have hqs:sgn s q.num.natAbs=q.num:=by
  have h1:(0 < a)->0 < q.num.natAbs:=fun h=>by
   rw [m1]; exact Nat.div_pos (Nat.le_of_dvd h (Nat.gcd_dvd_left ..)) hg0
  have h2:a=0->q.num.natAbs=0:=fun h=>by rw [m1,h,Nat.zero_div]
  unfold sgn
  cases s
  ·have:¬ q.num < 0:=by simpa using m3
   simp only [Bool.false_eq_true,if_false]; omega
  ·simp only [if_true]
   rcases Nat.eq_zero_or_pos a with h|h
   ·have:=h2 h; omega
   ·have:=h1 h
    have:q.num < 0:=by simpa [h] using m3
    omega
 have hpath:(decide (b=1)=true/\a=q.num.natAbs/\b=q.den)\/(decide (b=1)=false/\decide (Nat.gcd a b=1)=true/\a=q.num.natAbs/\b=q.den)\/(decide (b=1)=false/\decide (Nat.gcd a b=1)=false):=by
  by_cases h1:b=1
  ·refine .inl ⟨decide_eq_true h1,?_,?_⟩
   ·rw [m1,h1,Nat.gcd_one_right,Nat.div_one]
   ·rw [m2,h1,Nat.gcd_one_right,Nat.div_one]
  ·by_cases h2:Nat.gcd a b=1
   ·exact .inr (.inl ⟨decide_eq_false h1,decide_eq_true h2,by rw [m1,h2,Nat.div_one],by rw [m2,h2,Nat.div_one]⟩)
   ·exact .inr (.inr ⟨decide_eq_false h1,decide_eq_false h2⟩)
 have hob:small q->Fn Tryz.prog 225 [⟨.bool,s⟩,⟨tInts,natL q.num.natAbs⟩] true [⟨tBig,bigD q.num⟩]:=fun hs=>l03Make_to hqs (by have:=hs.1; omega)
 have hend:small q\/(24:Int) < nl q.num.natAbs\/(¬ (24:Int) < nl q.num.natAbs/\(24:Int) < nl q.den):=by unfold small; omega
 rcases hpath with ⟨hd,e1,e2⟩|⟨hd,hd2,e1,e2⟩|⟨hd,hd2⟩
 ·rcases hend with hs|hA|⟨hA,hB⟩
  ·rw [capR_s hs]
   have hA:¬ (24:Int) < nl q.num.natAbs:=by have:=hs.1; omega
   have hB:¬ (24:Int) < nl q.den:=by have:=hs.2; omega
   have hob:=hob hs
   rw [<-e1] at hA hob; rw [<-e2] at hB
   refine fn_enter tabOK mixes Tryz.func236 rfl rfl _ Tryz.ntmps236 _ Tryz.results236 (by simp) fun hwf=>?_
   try simp (maxSteps:=9^9) only[go_sem]
   repeat refine And.intro (by first|omega|(constructor<;>omega)|kernel_rfl) ?_
   refine CallW.mk (ht1) ?_
   try simp (maxSteps:=9^9) only[go_sem]
   repeat refine And.intro (by first|omega|(constructor<;>omega)|kernel_rfl) ?_
   refine CallW.mk (ht2) ?_
   try simp (maxSteps:=9^9) only[go_sem]
   try simp (maxSteps:=9^9) only[go_sem,hb0]
   repeat refine And.intro (by first|omega|(constructor<;>omega)|kernel_rfl) ?_
   refine CallW.mk (l04One_fn b) ?_
   try simp (maxSteps:=9^9) only[go_sem]
   try simp (maxSteps:=9^9) only[go_sem,hd,hA,hB]
   repeat refine And.intro (by first|omega|(constructor<;>omega)|kernel_rfl) ?_
   refine CallW.mk (hob) ?_
   try simp (maxSteps:=9^9) only[go_sem]
   repeat refine And.intro (by first|omega|(constructor<;>omega)|kernel_rfl) ?_
   try simp (maxSteps:=9^9) only[go_sem,e2]
   try omega
  ·rw [capR_none (by unfold small; omega)]
   rw [<-e1] at hA
   refine fn_enter tabOK mixes Tryz.func236 rfl rfl _ Tryz.ntmps236 _ Tryz.results236 (by simp) fun hwf=>?_
   try simp (maxSteps:=9^9) only[go_sem]
   repeat refine And.intro (by first|omega|(constructor<;>omega)|kernel_rfl) ?_
   refine CallW.mk (ht1) ?_
   try simp (maxSteps:=9^9) only[go_sem]
   repeat refine And.intro (by first|omega|(constructor<;>omega)|kernel_rfl) ?_
   refine CallW.mk (ht2) ?_
   try simp (maxSteps:=9^9) only[go_sem]
   try simp (maxSteps:=9^9) only[go_sem,hb0]
   repeat refine And.intro (by first|omega|(constructor<;>omega)|kernel_rfl) ?_
   refine CallW.mk (l04One_fn b) ?_
   try simp (maxSteps:=9^9) only[go_sem]
   try simp (maxSteps:=9^9) only[go_sem,hd,hA]
  ·rw [capR_none (by unfold small; omega)]
   rw [<-e1] at hA; rw [<-e2] at hB
   refine fn_enter tabOK mixes Tryz.func236 rfl rfl _ Tryz.ntmps236 _ Tryz.results236 (by simp) fun hwf=>?_
   try simp (maxSteps:=9^9) only[go_sem]
   repeat refine And.intro (by first|omega|(constructor<;>omega)|kernel_rfl) ?_
   refine CallW.mk (ht1) ?_
   try simp (maxSteps:=9^9) only[go_sem]
   repeat refine And.intro (by first|omega|(constructor<;>omega)|kernel_rfl) ?_
   refine CallW.mk (ht2) ?_
   try simp (maxSteps:=9^9) only[go_sem]
   try simp (maxSteps:=9^9) only[go_sem,hb0]
   repeat refine And.intro (by first|omega|(constructor<;>omega)|kernel_rfl) ?_
   refine CallW.mk (l04One_fn b) ?_
   try simp (maxSteps:=9^9) only[go_sem]
   try simp (maxSteps:=9^9) only[go_sem,hd,hA,hB]
 ·rcases hend with hs|hA|⟨hA,hB⟩
  ·rw [capR_s hs]
   have hA:¬ (24:Int) < nl q.num.natAbs:=by have:=hs.1; omega
   have hB:¬ (24:Int) < nl q.den:=by have:=hs.2; omega
   have hob:=hob hs
   rw [<-e1] at hA hob; rw [<-e2] at hB
   refine fn_enter tabOK mixes Tryz.func236 rfl rfl _ Tryz.ntmps236 _ Tryz.results236 (by simp) fun hwf=>?_
   try simp (maxSteps:=9^9) only[go_sem]
   repeat refine And.intro (by first|omega|(constructor<;>omega)|kernel_rfl) ?_
   refine CallW.mk (ht1) ?_
   try simp (maxSteps:=9^9) only[go_sem]
   repeat refine And.intro (by first|omega|(constructor<;>omega)|kernel_rfl) ?_
   refine CallW.mk (ht2) ?_
   try simp (maxSteps:=9^9) only[go_sem]
   try simp (maxSteps:=9^9) only[go_sem,hb0]
   repeat refine And.intro (by first|omega|(constructor<;>omega)|kernel_rfl) ?_
   refine CallW.mk (l04One_fn b) ?_
   try simp (maxSteps:=9^9) only[go_sem]
   try simp (maxSteps:=9^9) only[go_sem,hd]
   repeat refine And.intro (by first|omega|(constructor<;>omega)|kernel_rfl) ?_
   refine CallW.mk (l02Gcd_fn a b (by omega) (by omega)) ?_
   try simp (maxSteps:=9^9) only[go_sem]
   repeat refine And.intro (by first|omega|(constructor<;>omega)|kernel_rfl) ?_
   refine CallW.mk (l04One_fn (Nat.gcd a b)) ?_
   try simp (maxSteps:=9^9) only[go_sem]
   try simp (maxSteps:=9^9) only[go_sem,hd2,hA,hB]
   repeat refine And.intro (by first|omega|(constructor<;>omega)|kernel_rfl) ?_
   refine CallW.mk (hob) ?_
   try simp (maxSteps:=9^9) only[go_sem]
   repeat refine And.intro (by first|omega|(constructor<;>omega)|kernel_rfl) ?_
   try simp (maxSteps:=9^9) only[go_sem,e2]
   try omega
  ·rw [capR_none (by unfold small; omega)]
   rw [<-e1] at hA
   refine fn_enter tabOK mixes Tryz.func236 rfl rfl _ Tryz.ntmps236 _ Tryz.results236 (by simp) fun hwf=>?_
   try simp (maxSteps:=9^9) only[go_sem]
   repeat refine And.intro (by first|omega|(constructor<;>omega)|kernel_rfl) ?_
   refine CallW.mk (ht1) ?_
   try simp (maxSteps:=9^9) only[go_sem]
   repeat refine And.intro (by first|omega|(constructor<;>omega)|kernel_rfl) ?_
   refine CallW.mk (ht2) ?_
   try simp (maxSteps:=9^9) only[go_sem]
   try simp (maxSteps:=9^9) only[go_sem,hb0]
   repeat refine And.intro (by first|omega|(constructor<;>omega)|kernel_rfl) ?_
   refine CallW.mk (l04One_fn b) ?_
   try simp (maxSteps:=9^9) only[go_sem]
   try simp (maxSteps:=9^9) only[go_sem,hd]
   repeat refine And.intro (by first|omega|(constructor<;>omega)|kernel_rfl) ?_
   refine CallW.mk (l02Gcd_fn a b (by omega) (by omega)) ?_
   try simp (maxSteps:=9^9) only[go_sem]
   repeat refine And.intro (by first|omega|(constructor<;>omega)|kernel_rfl) ?_
   refine CallW.mk (l04One_fn (Nat.gcd a b)) ?_
   try simp (maxSteps:=9^9) only[go_sem]
   try simp (maxSteps:=9^9) only[go_sem,hd2,hA]
  ·rw [capR_none (by unfold small; omega)]
   rw [<-e1] at hA; rw [<-e2] at hB
   refine fn_enter tabOK mixes Tryz.func236 rfl rfl _ Tryz.ntmps236 _ Tryz.results236 (by simp) fun hwf=>?_
   try simp (maxSteps:=9^9) only[go_sem]
   repeat refine And.intro (by first|omega|(constructor<;>omega)|kernel_rfl) ?_
   refine CallW.mk (ht1) ?_
   try simp (maxSteps:=9^9) only[go_sem]
   repeat refine And.intro (by first|omega|(constructor<;>omega)|kernel_rfl) ?_
   refine CallW.mk (ht2) ?_
   try simp (maxSteps:=9^9) only[go_sem]
   try simp (maxSteps:=9^9) only[go_sem,hb0]
   repeat refine And.intro (by first|omega|(constructor<;>omega)|kernel_rfl) ?_
   refine CallW.mk (l04One_fn b) ?_
   try simp (maxSteps:=9^9) only[go_sem]
   try simp (maxSteps:=9^9) only[go_sem,hd]
   repeat refine And.intro (by first|omega|(constructor<;>omega)|kernel_rfl) ?_
   refine CallW.mk (l02Gcd_fn a b (by omega) (by omega)) ?_
   try simp (maxSteps:=9^9) only[go_sem]
   repeat refine And.intro (by first|omega|(constructor<;>omega)|kernel_rfl) ?_
   refine CallW.mk (l04One_fn (Nat.gcd a b)) ?_
   try simp (maxSteps:=9^9) only[go_sem]
   try simp (maxSteps:=9^9) only[go_sem,hd2,hA,hB]
 ·rcases hend with hs|hA|⟨hA,hB⟩
  ·rw [capR_s hs]
   have hA:¬ (24:Int) < nl q.num.natAbs:=by have:=hs.1; omega
   have hB:¬ (24:Int) < nl q.den:=by have:=hs.2; omega
   have hob:=hob hs
   refine fn_enter tabOK mixes Tryz.func236 rfl rfl _ Tryz.ntmps236 _ Tryz.results236 (by simp) fun hwf=>?_
   try simp (maxSteps:=9^9) only[go_sem]
   repeat refine And.intro (by first|omega|(constructor<;>omega)|kernel_rfl) ?_
   refine CallW.mk (ht1) ?_
   try simp (maxSteps:=9^9) only[go_sem]
   repeat refine And.intro (by first|omega|(constructor<;>omega)|kernel_rfl) ?_
   refine CallW.mk (ht2) ?_
   try simp (maxSteps:=9^9) only[go_sem]
   try simp (maxSteps:=9^9) only[go_sem,hb0]
   repeat refine And.intro (by first|omega|(constructor<;>omega)|kernel_rfl) ?_
   refine CallW.mk (l04One_fn b) ?_
   try simp (maxSteps:=9^9) only[go_sem]
   try simp (maxSteps:=9^9) only[go_sem,hd]
   repeat refine And.intro (by first|omega|(constructor<;>omega)|kernel_rfl) ?_
   refine CallW.mk (l02Gcd_fn a b (by omega) (by omega)) ?_
   try simp (maxSteps:=9^9) only[go_sem]
   repeat refine And.intro (by first|omega|(constructor<;>omega)|kernel_rfl) ?_
   refine CallW.mk (l04One_fn (Nat.gcd a b)) ?_
   try simp (maxSteps:=9^9) only[go_sem]
   try simp (maxSteps:=9^9) only[go_sem,hd2]
   have c1:=l02Div_fn a (Nat.gcd a b) hg0 (by omega) (by omega)
   rw [<-m1] at c1
   repeat refine And.intro (by first|omega|(constructor<;>omega)|kernel_rfl) ?_
   refine CallW.mk (c1) ?_
   try simp (maxSteps:=9^9) only[go_sem]
   have c2:=l02Div_fn b (Nat.gcd a b) hg0 (by omega) (by omega)
   rw [<-m2] at c2
   repeat refine And.intro (by first|omega|(constructor<;>omega)|kernel_rfl) ?_
   refine CallW.mk (c2) ?_
   try simp (maxSteps:=9^9) only[go_sem]
   try simp (maxSteps:=9^9) only[go_sem,hA,hB]
   repeat refine And.intro (by first|omega|(constructor<;>omega)|kernel_rfl) ?_
   refine CallW.mk (hob) ?_
   try simp (maxSteps:=9^9) only[go_sem]
   repeat refine And.intro (by first|omega|(constructor<;>omega)|kernel_rfl) ?_
   try simp (maxSteps:=9^9) only[go_sem]
   try omega
  ·rw [capR_none (by unfold small; omega)]
   refine fn_enter tabOK mixes Tryz.func236 rfl rfl _ Tryz.ntmps236 _ Tryz.results236 (by simp) fun hwf=>?_
   try simp (maxSteps:=9^9) only[go_sem]
   repeat refine And.intro (by first|omega|(constructor<;>omega)|kernel_rfl) ?_
   refine CallW.mk (ht1) ?_
   try simp (maxSteps:=9^9) only[go_sem]
   repeat refine And.intro (by first|omega|(constructor<;>omega)|kernel_rfl) ?_
   refine CallW.mk (ht2) ?_
   try simp (maxSteps:=9^9) only[go_sem]
   try simp (maxSteps:=9^9) only[go_sem,hb0]
   repeat refine And.intro (by first|omega|(constructor<;>omega)|kernel_rfl) ?_
   refine CallW.mk (l04One_fn b) ?_
   try simp (maxSteps:=9^9) only[go_sem]
   try simp (maxSteps:=9^9) only[go_sem,hd]
   repeat refine And.intro (by first|omega|(constructor<;>omega)|kernel_rfl) ?_
   refine CallW.mk (l02Gcd_fn a b (by omega) (by omega)) ?_
   try simp (maxSteps:=9^9) only[go_sem]
   repeat refine And.intro (by first|omega|(constructor<;>omega)|kernel_rfl) ?_
   refine CallW.mk (l04One_fn (Nat.gcd a b)) ?_
   try simp (maxSteps:=9^9) only[go_sem]
   try simp (maxSteps:=9^9) only[go_sem,hd2]
   have c1:=l02Div_fn a (Nat.gcd a b) hg0 (by omega) (by omega)
   rw [<-m1] at c1
   repeat refine And.intro (by first|omega|(constructor<;>omega)|kernel_rfl) ?_
   refine CallW.mk (c1) ?_
   try simp (maxSteps:=9^9) only[go_sem]
   have c2:=l02Div_fn b (Nat.gcd a b) hg0 (by omega) (by omega)
   rw [<-m2] at c2
   repeat refine And.intro (by first|omega|(constructor<;>omega)|kernel_rfl) ?_
   refine CallW.mk (c2) ?_
   try simp (maxSteps:=9^9) only[go_sem]
   try simp (maxSteps:=9^9) only[go_sem,hA]
  ·rw [capR_none (by unfold small; omega)]
   refine fn_enter tabOK mixes Tryz.func236 rfl rfl _ Tryz.ntmps236 _ Tryz.results236 (by simp) fun hwf=>?_
   try simp (maxSteps:=9^9) only[go_sem]
   repeat refine And.intro (by first|omega|(constructor<;>omega)|kernel_rfl) ?_
   refine CallW.mk (ht1) ?_
   try simp (maxSteps:=9^9) only[go_sem]
   repeat refine And.intro (by first|omega|(constructor<;>omega)|kernel_rfl) ?_
   refine CallW.mk (ht2) ?_
   try simp (maxSteps:=9^9) only[go_sem]
   try simp (maxSteps:=9^9) only[go_sem,hb0]
   repeat refine And.intro (by first|omega|(constructor<;>omega)|kernel_rfl) ?_
   refine CallW.mk (l04One_fn b) ?_
   try simp (maxSteps:=9^9) only[go_sem]
   try simp (maxSteps:=9^9) only[go_sem,hd]
   repeat refine And.intro (by first|omega|(constructor<;>omega)|kernel_rfl) ?_
   refine CallW.mk (l02Gcd_fn a b (by omega) (by omega)) ?_
   try simp (maxSteps:=9^9) only[go_sem]
   repeat refine And.intro (by first|omega|(constructor<;>omega)|kernel_rfl) ?_
   refine CallW.mk (l04One_fn (Nat.gcd a b)) ?_
   try simp (maxSteps:=9^9) only[go_sem]
   try simp (maxSteps:=9^9) only[go_sem,hd2]
   have c1:=l02Div_fn a (Nat.gcd a b) hg0 (by omega) (by omega)
   rw [<-m1] at c1
   repeat refine And.intro (by first|omega|(constructor<;>omega)|kernel_rfl) ?_
   refine CallW.mk (c1) ?_
   try simp (maxSteps:=9^9) only[go_sem]
   have c2:=l02Div_fn b (Nat.gcd a b) hg0 (by omega) (by omega)
   rw [<-m2] at c2
   repeat refine And.intro (by first|omega|(constructor<;>omega)|kernel_rfl) ?_
   refine CallW.mk (c2) ?_
   try simp (maxSteps:=9^9) only[go_sem]
   try simp (maxSteps:=9^9) only[go_sem,hA,hB]
end Go.Proofs.YtffdhjnbppagjaaGreat.DW

namespace Go.Proofs.YtffdhjnbppagjaaGreat.DW
open Go.RowKit
attribute [go_sem] Option.isSome_none bigD_nat
theorem isGood_n:Fn Tryz.prog 208 [⟨tRat,((false,[]),[])⟩] false [⟨.bool,false⟩]:=isGood_fn none
theorem isGood_s (q:Rat):Fn Tryz.prog 208 [⟨tRat,ratD q⟩] false [⟨.bool,true⟩]:=isGood_fn (some q)
theorem ratCmp_fn (x y:Option Rat) (hx:okO x) (hy:okO y):Fn Tryz.prog 134 [⟨tRat,oD x⟩,⟨tRat,oD y⟩] false [⟨.int,cmpO x y⟩]:=by
 cases x with
 | none =>
  refine fn_enter tabOK mixes Tryz.func134 rfl rfl _ Tryz.ntmps134 _ Tryz.results134 (by simp) fun hwf=>?_
  try simp (maxSteps:=9^9) only[go_sem]
  repeat refine And.intro (by first|omega|(constructor<;>omega)|kernel_rfl) ?_
  refine CallW.mk (isGood_n) ?_
  try simp (maxSteps:=9^9) only[go_sem]
  rfl
 | some p =>
  cases y with
  | none =>
   refine fn_enter tabOK mixes Tryz.func134 rfl rfl _ Tryz.ntmps134 _ Tryz.results134 (by simp) fun hwf=>?_
   try simp (maxSteps:=9^9) only[go_sem]
   repeat refine And.intro (by first|omega|(constructor<;>omega)|kernel_rfl) ?_
   refine CallW.mk (isGood_s p) ?_
   try simp (maxSteps:=9^9) only[go_sem]
   repeat refine And.intro (by first|omega|(constructor<;>omega)|kernel_rfl) ?_
   refine CallW.mk (isGood_n) ?_
   try simp (maxSteps:=9^9) only[go_sem]
   rfl
  | some q =>
   obtain ⟨p1,p2⟩:=hx p rfl
   obtain ⟨q1,q2⟩:=hy q rfl
   refine fn_enter tabOK mixes Tryz.func134 rfl rfl _ Tryz.ntmps134 _ Tryz.results134 (by simp) fun hwf=>?_
   try simp (maxSteps:=9^9) only[go_sem]
   repeat refine And.intro (by first|omega|(constructor<;>omega)|kernel_rfl) ?_
   refine CallW.mk (isGood_s p) ?_
   try simp (maxSteps:=9^9) only[go_sem]
   repeat refine And.intro (by first|omega|(constructor<;>omega)|kernel_rfl) ?_
   refine CallW.mk (isGood_s q) ?_
   try simp (maxSteps:=9^9) only[go_sem]
   repeat refine And.intro (by first|omega|(constructor<;>omega)|kernel_rfl) ?_
   refine CallW.mk (bigMulN_fn p.num q.den (by omega) (by omega)) ?_
   try simp (maxSteps:=9^9) only[go_sem]
   repeat refine And.intro (by first|omega|(constructor<;>omega)|kernel_rfl) ?_
   refine CallW.mk (bigMulN_fn q.num p.den (by omega) (by omega)) ?_
   try simp (maxSteps:=9^9) only[go_sem]
   repeat refine And.intro (by first|omega|(constructor<;>omega)|kernel_rfl) ?_
   refine CallW.mk (bigCmp_fn (p.num * q.den) (q.num * p.den)) ?_
   try simp (maxSteps:=9^9) only[go_sem]
   repeat refine And.intro (by first|omega|(constructor<;>omega)|kernel_rfl) ?_
   exact (cmpQ_eq p q).symm
theorem nl_mulZ (a:Int) (n:Nat):nl (a * (n:Int)).natAbs<=nl a.natAbs+nl n:=by
 rw [Int.natAbs_mul,Int.natAbs_natCast]; exact nl_mul _ _
theorem nl_addZ (a b:Int):nl (a+b).natAbs<=max (nl a.natAbs) (nl b.natAbs)+1:=Nat.le_trans (nl_mono (Int.natAbs_add_le a b)) (nl_add _ _)
theorem nl_mulI (a b:Int):nl (a * b).natAbs<=nl a.natAbs+nl b.natAbs:=by
 rw [Int.natAbs_mul]; exact nl_mul _ _
theorem den_mul_ne (p q:Rat):p.den * q.den ≠ 0:=Nat.mul_ne_zero p.den_nz q.den_nz
theorem ratAdd_fn (x y:Option Rat) (hx:okO x) (hy:okO y):Fn Tryz.prog 215 [⟨tRat,oD x⟩,⟨tRat,oD y⟩] true [⟨tRat,oD (addO x y)⟩]:=by
 cases x with
 | none =>
  refine fn_enter tabOK mixes Tryz.func215 rfl rfl _ Tryz.ntmps215 _ Tryz.results215 (by simp) fun hwf=>?_
  try simp (maxSteps:=9^9) only[go_sem]
  repeat refine And.intro (by first|omega|(constructor<;>omega)|kernel_rfl) ?_
  refine CallW.mk (isGood_n) ?_
  try simp (maxSteps:=9^9) only[go_sem]
  try simp (maxSteps:=9^9) only[go_sem,addO]
 | some p =>
  cases y with
  | none =>
   refine fn_enter tabOK mixes Tryz.func215 rfl rfl _ Tryz.ntmps215 _ Tryz.results215 (by simp) fun hwf=>?_
   try simp (maxSteps:=9^9) only[go_sem]
   repeat refine And.intro (by first|omega|(constructor<;>omega)|kernel_rfl) ?_
   refine CallW.mk (isGood_s p) ?_
   try simp (maxSteps:=9^9) only[go_sem]
   repeat refine And.intro (by first|omega|(constructor<;>omega)|kernel_rfl) ?_
   refine CallW.mk (isGood_n) ?_
   try simp (maxSteps:=9^9) only[go_sem]
   try simp (maxSteps:=9^9) only[go_sem,addO]
  | some q =>
   obtain ⟨p1,p2⟩:=hx p rfl
   obtain ⟨q1,q2⟩:=hy q rfl
   have b1:=nl_mulZ p.num q.den
   have b2:=nl_mulZ q.num p.den
   have b3:=nl_addZ (p.num * q.den) (q.num * p.den)
   have b4:=nl_mul p.den q.den
   have hm:=ratMake_end (p.num * q.den+q.num * p.den) (p.den * q.den) (den_mul_ne p q) (by omega) (by omega)
   rw [<-add_mk] at hm
   have e:addO (some p) (some q)=capR (p+q):=rfl
   rw [e]
   refine fn_enter tabOK mixes Tryz.func215 rfl rfl _ Tryz.ntmps215 _ Tryz.results215 (by simp) fun hwf=>?_
   try simp (maxSteps:=9^9) only[go_sem]
   repeat refine And.intro (by first|omega|(constructor<;>omega)|kernel_rfl) ?_
   refine CallW.mk (isGood_s p) ?_
   try simp (maxSteps:=9^9) only[go_sem]
   repeat refine And.intro (by first|omega|(constructor<;>omega)|kernel_rfl) ?_
   refine CallW.mk (isGood_s q) ?_
   try simp (maxSteps:=9^9) only[go_sem]
   repeat refine And.intro (by first|omega|(constructor<;>omega)|kernel_rfl) ?_
   refine CallW.mk (bigMulN_fn p.num q.den (by omega) (by omega)) ?_
   try simp (maxSteps:=9^9) only[go_sem]
   repeat refine And.intro (by first|omega|(constructor<;>omega)|kernel_rfl) ?_
   refine CallW.mk (bigMulN_fn q.num p.den (by omega) (by omega)) ?_
   try simp (maxSteps:=9^9) only[go_sem]
   repeat refine And.intro (by first|omega|(constructor<;>omega)|kernel_rfl) ?_
   refine CallW.mk (bigAdd_fn (p.num * q.den) (q.num * p.den) (by omega) (by omega)) ?_
   try simp (maxSteps:=9^9) only[go_sem]
   repeat refine And.intro (by first|omega|(constructor<;>omega)|kernel_rfl) ?_
   refine CallW.mk (natMul_fn p.den q.den (by omega) (by omega)) ?_
   try simp (maxSteps:=9^9) only[go_sem]
   repeat refine And.intro (by first|omega|(constructor<;>omega)|kernel_rfl) ?_
   refine CallW.mk (hm) ?_
   try simp (maxSteps:=9^9) only[go_sem]
   all_goals repeat refine And.intro (by first|omega|(constructor<;>omega)|kernel_rfl) ?_
   all_goals first|kernel_rfl|omega|rfl
theorem ratNeg_fn (x:Option Rat):Fn Tryz.prog 315 [⟨tRat,oD x⟩] false [⟨tRat,oD (negO x)⟩]:=by
 cases x with
 | none =>
  have hb:=bigNeg_fn 0
  rw [Int.neg_zero,bigD_zero] at hb
  refine fn_enter tabOK mixes Tryz.func315 rfl rfl _ Tryz.ntmps315 _ Tryz.results315 (by simp) fun hwf=>?_
  try simp (maxSteps:=9^9) only[go_sem]
  repeat refine And.intro (by first|omega|(constructor<;>omega)|kernel_rfl) ?_
  refine CallW.mk (hb) ?_
  try simp (maxSteps:=9^9) only[go_sem]
  try simp (maxSteps:=9^9) only[go_sem,negO]
  all_goals repeat refine And.intro (by first|omega|(constructor<;>omega)|kernel_rfl) ?_
  all_goals first|kernel_rfl|omega|rfl
 | some p =>
  refine fn_enter tabOK mixes Tryz.func315 rfl rfl _ Tryz.ntmps315 _ Tryz.results315 (by simp) fun hwf=>?_
  try simp (maxSteps:=9^9) only[go_sem]
  repeat refine And.intro (by first|omega|(constructor<;>omega)|kernel_rfl) ?_
  refine CallW.mk (bigNeg_fn p.num) ?_
  try simp (maxSteps:=9^9) only[go_sem]
  try simp (maxSteps:=9^9) only[go_sem,negO,Rat.neg_num,Rat.neg_den]
  all_goals repeat refine And.intro (by first|omega|(constructor<;>omega)|kernel_rfl) ?_
  all_goals first|kernel_rfl|omega|rfl
theorem ratSub_fn (x y:Option Rat) (hx:okO x) (hy:okO y):Fn Tryz.prog 254 [⟨tRat,oD x⟩,⟨tRat,oD y⟩] true [⟨tRat,oD (subO x y)⟩]:=by
 show Fn _ _ _ _ [⟨tRat,oD (addO x (negO y))⟩]
 have h1:=ratNeg_fn y
 have h2:=ratAdd_fn x (negO y) hx (okO_neg hy)
 refine fn_enter tabOK mixes Tryz.func254 rfl rfl _ Tryz.ntmps254 _ Tryz.results254 (by simp) fun hwf=>?_
 try simp (maxSteps:=9^9) only[go_sem]
 repeat refine And.intro (by first|omega|(constructor<;>omega)|kernel_rfl) ?_
 refine CallW.mk (h1) ?_
 try simp (maxSteps:=9^9) only[go_sem]
 repeat refine And.intro (by first|omega|(constructor<;>omega)|kernel_rfl) ?_
 refine CallW.mk (h2) ?_
 try simp (maxSteps:=9^9) only[go_sem]
 all_goals repeat refine And.intro (by first|omega|(constructor<;>omega)|kernel_rfl) ?_
 all_goals first|kernel_rfl|omega|rfl
theorem cmpQ_zero (p:Rat):cmpQ p 0=cmpZ p.num 0:=by
 rw [cmpQ_eq]
 simp
theorem ratSign_fn (x:Option Rat):Fn Tryz.prog 131 [⟨tRat,oD x⟩] false [⟨.int,sgnO x⟩]:=by
 cases x with
 | none =>
  refine fn_enter tabOK mixes Tryz.func131 rfl rfl _ Tryz.ntmps131 _ Tryz.results131 (by simp) fun hwf=>?_
  try simp (maxSteps:=9^9) only[go_sem]
  repeat refine And.intro (by first|omega|(constructor<;>omega)|kernel_rfl) ?_
  refine CallW.mk (isGood_n) ?_
  try simp (maxSteps:=9^9) only[go_sem]
  try simp (maxSteps:=9^9) only[go_sem,sgnO]
 | some p =>
  have e:sgnO (some p)=cmpZ p.num 0:=cmpQ_zero p
  rw [e]
  by_cases h0:(nl p.num.natAbs:Int)=0
  ·have:p.num=0:=by have:=nl_eq_zero.1 (show nl p.num.natAbs=0 by omega); omega
   refine fn_enter tabOK mixes Tryz.func131 rfl rfl _ Tryz.ntmps131 _ Tryz.results131 (by simp) fun hwf=>?_
   try simp (maxSteps:=9^9) only[go_sem]
   repeat refine And.intro (by first|omega|(constructor<;>omega)|kernel_rfl) ?_
   refine CallW.mk (isGood_s p) ?_
   try simp (maxSteps:=9^9) only[go_sem]
   try simp (maxSteps:=9^9) only[go_sem,h0]
   simp [cmpZ,this]
  ·have h1:p.num ≠ 0:=fun h=>h0 (by rw [h]; simp [nl_zero])
   by_cases h2:p.num < 0
   ·refine fn_enter tabOK mixes Tryz.func131 rfl rfl _ Tryz.ntmps131 _ Tryz.results131 (by simp) fun hwf=>?_
    try simp (maxSteps:=9^9) only[go_sem]
    repeat refine And.intro (by first|omega|(constructor<;>omega)|kernel_rfl) ?_
    refine CallW.mk (isGood_s p) ?_
    try simp (maxSteps:=9^9) only[go_sem]
    try simp (maxSteps:=9^9) only[go_sem,h0,h2]
    simp [cmpZ,h2]
   ·have h3:0 < p.num:=by omega
    refine fn_enter tabOK mixes Tryz.func131 rfl rfl _ Tryz.ntmps131 _ Tryz.results131 (by simp) fun hwf=>?_
    try simp (maxSteps:=9^9) only[go_sem]
    repeat refine And.intro (by first|omega|(constructor<;>omega)|kernel_rfl) ?_
    refine CallW.mk (isGood_s p) ?_
    try simp (maxSteps:=9^9) only[go_sem]
    try simp (maxSteps:=9^9) only[go_sem,h0,h2]
    simp [cmpZ,h2,h3]
noncomputable def maxO:Option Rat->Option Rat->Option Rat
 | some p,some q=>if 0<=cmpQ p q then some p else some q
 | _,_=>none
noncomputable def minO:Option Rat->Option Rat->Option Rat
 | some p,some q=>if cmpQ p q<=0 then some p else some q
 | _,_=>none
theorem okO_max {x y:Option Rat} (hx:okO x) (hy:okO y):okO (maxO x y):=by
 unfold maxO
 split
 ·split
  ·exact hx
  ·exact hy
 ·exact okO_none
theorem okO_min {x y:Option Rat} (hx:okO x) (hy:okO y):okO (minO x y):=by
 unfold minO
 split
 ·split
  ·exact hx
  ·exact hy
 ·exact okO_none
theorem ratMax_fn (x y:Option Rat) (hx:okO x) (hy:okO y):Fn Tryz.prog 302 [⟨tRat,oD x⟩,⟨tRat,oD y⟩] false [⟨tRat,oD (maxO x y)⟩]:=by
 cases x with
 | none =>
  refine fn_enter tabOK mixes Tryz.func302 rfl rfl _ Tryz.ntmps302 _ Tryz.results302 (by simp) fun hwf=>?_
  try simp (maxSteps:=9^9) only[go_sem]
  repeat refine And.intro (by first|omega|(constructor<;>omega)|kernel_rfl) ?_
  refine CallW.mk (isGood_n) ?_
  try simp (maxSteps:=9^9) only[go_sem]
  try simp (maxSteps:=9^9) only[go_sem,maxO]
 | some p =>
  cases y with
  | none =>
   refine fn_enter tabOK mixes Tryz.func302 rfl rfl _ Tryz.ntmps302 _ Tryz.results302 (by simp) fun hwf=>?_
   try simp (maxSteps:=9^9) only[go_sem]
   repeat refine And.intro (by first|omega|(constructor<;>omega)|kernel_rfl) ?_
   refine CallW.mk (isGood_s p) ?_
   try simp (maxSteps:=9^9) only[go_sem]
   repeat refine And.intro (by first|omega|(constructor<;>omega)|kernel_rfl) ?_
   refine CallW.mk (isGood_n) ?_
   try simp (maxSteps:=9^9) only[go_sem]
   try simp (maxSteps:=9^9) only[go_sem,maxO]
  | some q =>
   have hc:=ratCmp_fn (some p) (some q) hx hy
   have e:cmpO (some p) (some q)=cmpQ p q:=rfl
   rw [e] at hc
   by_cases h:0<=cmpQ p q
   ·have e2:maxO (some p) (some q)=some p:=if_pos h
    rw [e2]
    refine fn_enter tabOK mixes Tryz.func302 rfl rfl _ Tryz.ntmps302 _ Tryz.results302 (by simp) fun hwf=>?_
    try simp (maxSteps:=9^9) only[go_sem]
    repeat refine And.intro (by first|omega|(constructor<;>omega)|kernel_rfl) ?_
    refine CallW.mk (isGood_s p) ?_
    try simp (maxSteps:=9^9) only[go_sem]
    repeat refine And.intro (by first|omega|(constructor<;>omega)|kernel_rfl) ?_
    refine CallW.mk (isGood_s q) ?_
    try simp (maxSteps:=9^9) only[go_sem]
    repeat refine And.intro (by first|omega|(constructor<;>omega)|kernel_rfl) ?_
    refine CallW.mk (hc) ?_
    try simp (maxSteps:=9^9) only[go_sem]
    try simp (maxSteps:=9^9) only[go_sem,h]
   ·have e2:maxO (some p) (some q)=some q:=if_neg h
    rw [e2]
    refine fn_enter tabOK mixes Tryz.func302 rfl rfl _ Tryz.ntmps302 _ Tryz.results302 (by simp) fun hwf=>?_
    try simp (maxSteps:=9^9) only[go_sem]
    repeat refine And.intro (by first|omega|(constructor<;>omega)|kernel_rfl) ?_
    refine CallW.mk (isGood_s p) ?_
    try simp (maxSteps:=9^9) only[go_sem]
    repeat refine And.intro (by first|omega|(constructor<;>omega)|kernel_rfl) ?_
    refine CallW.mk (isGood_s q) ?_
    try simp (maxSteps:=9^9) only[go_sem]
    repeat refine And.intro (by first|omega|(constructor<;>omega)|kernel_rfl) ?_
    refine CallW.mk (hc) ?_
    try simp (maxSteps:=9^9) only[go_sem]
    try simp (maxSteps:=9^9) only[go_sem,h]
theorem ownRat_fn (r:DR) (h1:r.1.2.length<=16777216) (h2:r.2.length<=16777216):Fn Tryz.prog 81 [⟨tRat,r⟩] true [⟨tRat,r⟩]:=by
 obtain ⟨⟨s,a⟩,d⟩:=r
 refine fn_enter tabOK mixes Tryz.func81 rfl rfl _ Tryz.ntmps81 _ Tryz.results81 (by simp) fun hwf=>?_
 try simp (maxSteps:=9^9) only[go_sem]
 repeat refine And.intro (by first|omega|(constructor<;>omega)|kernel_rfl) ?_
 refine CallW.mk (clone_fn a h1) ?_
 try simp (maxSteps:=9^9) only[go_sem]
 repeat refine And.intro (by first|omega|(constructor<;>omega)|kernel_rfl) ?_
 refine CallW.mk (clone_fn d h2) ?_
 try simp (maxSteps:=9^9) only[go_sem]
 all_goals repeat refine And.intro (by first|omega|(constructor<;>omega)|kernel_rfl) ?_
 all_goals first|kernel_rfl|omega|rfl
theorem ownO_fn (x:Option Rat) (hx:okO x):Fn Tryz.prog 81 [⟨tRat,oD x⟩] true [⟨tRat,oD x⟩]:=by
 refine ownRat_fn _ ?_ ?_
 ·cases x with
  | none=>exact Nat.zero_le _
  | some q=>have:=(hx q rfl).1; show nl q.num.natAbs<=_; omega
 ·cases x with
  | none=>exact Nat.zero_le _
  | some q=>have:=(hx q rfl).2; show nl q.den<=_; omega
end Go.Proofs.YtffdhjnbppagjaaGreat.DW

namespace Go.Proofs.YtffdhjnbppagjaaGreat.DW
open Go.RowKit
theorem sgn_mulN (x:Int) (n:Nat):sgn (decide (x < 0)) (x.natAbs * n)=x * n:=by
 unfold sgn
 by_cases h:x < 0
 ·simp only [h,decide_true,if_true,Int.natCast_mul]
  rw [show (x.natAbs:Int)=-x by omega,Int.neg_mul,Int.neg_neg]
 ·simp only [h,decide_false,Bool.false_eq_true,if_false,Int.natCast_mul]
  rw [show (x.natAbs:Int)=x by omega]
theorem l04Cmp_fn (p q:Rat) (hp:small p) (hq:small q):Fn Tryz.prog 155 [⟨tRat,ratD p⟩,⟨tRat,ratD q⟩] false [⟨.int,cmpQ p q⟩]:=by
 obtain ⟨p1,p2⟩:=hp
 obtain ⟨q1,q2⟩:=hq
 have b1:=nl_mul p.num.natAbs q.den
 have b2:=nl_mul q.num.natAbs p.den
 refine fn_enter tabOK mixes Tryz.func155 rfl rfl _ Tryz.ntmps155 _ Tryz.results155 (by simp) fun hwf=>?_
 try simp (maxSteps:=9^9) only[go_sem]
 repeat refine And.intro (by first|omega|(constructor<;>omega)|kernel_rfl) ?_
 refine CallW.mk (l02Mul_fn p.num.natAbs q.den (by omega) (by omega)) ?_
 try simp (maxSteps:=9^9) only[go_sem]
 repeat refine And.intro (by first|omega|(constructor<;>omega)|kernel_rfl) ?_
 refine CallW.mk (l03Make_to (sgn_mulN p.num q.den) (by omega)) ?_
 try simp (maxSteps:=9^9) only[go_sem]
 repeat refine And.intro (by first|omega|(constructor<;>omega)|kernel_rfl) ?_
 refine CallW.mk (l02Mul_fn q.num.natAbs p.den (by omega) (by omega)) ?_
 try simp (maxSteps:=9^9) only[go_sem]
 repeat refine And.intro (by first|omega|(constructor<;>omega)|kernel_rfl) ?_
 refine CallW.mk (l03Make_to (sgn_mulN q.num p.den) (by omega)) ?_
 try simp (maxSteps:=9^9) only[go_sem]
 repeat refine And.intro (by first|omega|(constructor<;>omega)|kernel_rfl) ?_
 refine CallW.mk (l03Cmp_fn (p.num * q.den) (q.num * p.den)) ?_
 try simp (maxSteps:=9^9) only[go_sem]
 repeat refine And.intro (by first|omega|(constructor<;>omega)|kernel_rfl) ?_
 exact (cmpQ_eq p q).symm
theorem specRatCmp_fn (r s:DR):Fn Tryz.prog 316 [⟨tRat,r⟩,⟨tRat,s⟩] false [⟨.int,cmpO (rdO r) (rdO s)⟩]:=by
 cases hr:okR r
 ·rw [okR_f hr]
  refine fn_enter tabOK mixes Tryz.func316 rfl rfl _ Tryz.ntmps316 _ Tryz.results316 (by simp) fun hwf=>?_
  try simp (maxSteps:=9^9) only[go_sem]
  repeat refine And.intro (by first|omega|(constructor<;>omega)|kernel_rfl) ?_
  refine CallW.mk (specRatOk_fn r) ?_
  try simp (maxSteps:=9^9) only[go_sem]
  try simp (maxSteps:=9^9) only[go_sem,hr]
  rfl
 ·cases hs:okR s
  ·rw [okR_f hs]
   have e:cmpO (rdO r) none=0:=by unfold cmpO; cases rdO r<;>rfl
   rw [e]
   refine fn_enter tabOK mixes Tryz.func316 rfl rfl _ Tryz.ntmps316 _ Tryz.results316 (by simp) fun hwf=>?_
   try simp (maxSteps:=9^9) only[go_sem]
   repeat refine And.intro (by first|omega|(constructor<;>omega)|kernel_rfl) ?_
   refine CallW.mk (specRatOk_fn r) ?_
   try simp (maxSteps:=9^9) only[go_sem]
   try simp (maxSteps:=9^9) only[go_sem,hr]
   repeat refine And.intro (by first|omega|(constructor<;>omega)|kernel_rfl) ?_
   refine CallW.mk (specRatOk_fn s) ?_
   try simp (maxSteps:=9^9) only[go_sem]
   try simp (maxSteps:=9^9) only[go_sem,hs]
  ·obtain ⟨p,hp,rfl,e1⟩:=okR_t hr
   obtain ⟨q,hq,rfl,e2⟩:=okR_t hs
   rw [e1,e2]
   have hr':okR ((decide (p.num < 0),natL p.num.natAbs),natL p.den)=true:=hr
   have hs':okR ((decide (q.num < 0),natL q.num.natAbs),natL q.den)=true:=hs
   refine fn_enter tabOK mixes Tryz.func316 rfl rfl _ Tryz.ntmps316 _ Tryz.results316 (by simp) fun hwf=>?_
   try simp (maxSteps:=9^9) only[go_sem]
   repeat refine And.intro (by first|omega|(constructor<;>omega)|kernel_rfl) ?_
   refine CallW.mk (specRatOk_fn (ratD p)) ?_
   try simp (maxSteps:=9^9) only[go_sem]
   try simp (maxSteps:=9^9) only[go_sem,hr']
   repeat refine And.intro (by first|omega|(constructor<;>omega)|kernel_rfl) ?_
   refine CallW.mk (specRatOk_fn (ratD q)) ?_
   try simp (maxSteps:=9^9) only[go_sem]
   try simp (maxSteps:=9^9) only[go_sem,hs']
   repeat refine And.intro (by first|omega|(constructor<;>omega)|kernel_rfl) ?_
   refine CallW.mk (l04Cmp_fn p q hp hq) ?_
   try simp (maxSteps:=9^9) only[go_sem]
   rfl
theorem l04Copy_fn (r:DR) (h1:r.1.2.length<=16777216) (h2:r.2.length<=16777216):Fn Tryz.prog 156 [⟨tRat,r⟩] true [⟨tRat,r⟩]:=by
 obtain ⟨⟨s,a⟩,d⟩:=r
 simp only at h1 h2
 refine fn_enter tabOK mixes Tryz.func156 rfl rfl _ Tryz.ntmps156 _ Tryz.results156 (by simp) fun hwf=>?_
 try simp (maxSteps:=9^9) only[go_sem]
 all_goals repeat refine And.intro (by first|omega|(constructor<;>omega)|kernel_rfl) ?_
 all_goals first|kernel_rfl|omega|rfl
theorem copyD_fn (p:Rat) (hp:small p):Fn Tryz.prog 156 [⟨tRat,ratD p⟩] true [⟨tRat,ratD p⟩]:=l04Copy_fn _ (by have:=hp.1; show nl p.num.natAbs<=_; omega) (by have:=hp.2; show nl p.den<=_; omega)
theorem specRatMax_fn (r s:DR):Fn Tryz.prog 249 [⟨tRat,r⟩,⟨tRat,s⟩] true [⟨tRat,oD (maxO (rdO r) (rdO s))⟩]:=by
 cases hr:okR r
 ·rw [okR_f hr]
  have e:maxO none (rdO s)=none:=rfl
  rw [e]
  refine fn_enter tabOK mixes Tryz.func249 rfl rfl _ Tryz.ntmps249 _ Tryz.results249 (by simp) fun hwf=>?_
  try simp (maxSteps:=9^9) only[go_sem]
  repeat refine And.intro (by first|omega|(constructor<;>omega)|kernel_rfl) ?_
  refine CallW.mk (specRatOk_fn r) ?_
  try simp (maxSteps:=9^9) only[go_sem]
  try simp (maxSteps:=9^9) only[go_sem,hr]
 ·cases hs:okR s
  ·rw [okR_f hs]
   have e:maxO (rdO r) none=none:=by unfold maxO; cases rdO r<;>rfl
   rw [e]
   refine fn_enter tabOK mixes Tryz.func249 rfl rfl _ Tryz.ntmps249 _ Tryz.results249 (by simp) fun hwf=>?_
   try simp (maxSteps:=9^9) only[go_sem]
   repeat refine And.intro (by first|omega|(constructor<;>omega)|kernel_rfl) ?_
   refine CallW.mk (specRatOk_fn r) ?_
   try simp (maxSteps:=9^9) only[go_sem]
   try simp (maxSteps:=9^9) only[go_sem,hr]
   repeat refine And.intro (by first|omega|(constructor<;>omega)|kernel_rfl) ?_
   refine CallW.mk (specRatOk_fn s) ?_
   try simp (maxSteps:=9^9) only[go_sem]
   try simp (maxSteps:=9^9) only[go_sem,hs]
  ·obtain ⟨p,hp,rfl,e1⟩:=okR_t hr
   obtain ⟨q,hq,rfl,e2⟩:=okR_t hs
   rw [e1,e2]
   have hr':okR ((decide (p.num < 0),natL p.num.natAbs),natL p.den)=true:=hr
   have hs':okR ((decide (q.num < 0),natL q.num.natAbs),natL q.den)=true:=hs
   by_cases h:0<=cmpQ p q
   ·have e3:maxO (some p) (some q)=some p:=if_pos h
    rw [e3]
    refine fn_enter tabOK mixes Tryz.func249 rfl rfl _ Tryz.ntmps249 _ Tryz.results249 (by simp) fun hwf=>?_
    try simp (maxSteps:=9^9) only[go_sem]
    repeat refine And.intro (by first|omega|(constructor<;>omega)|kernel_rfl) ?_
    refine CallW.mk (specRatOk_fn (ratD p)) ?_
    try simp (maxSteps:=9^9) only[go_sem]
    try simp (maxSteps:=9^9) only[go_sem,hr']
    repeat refine And.intro (by first|omega|(constructor<;>omega)|kernel_rfl) ?_
    refine CallW.mk (specRatOk_fn (ratD q)) ?_
    try simp (maxSteps:=9^9) only[go_sem]
    try simp (maxSteps:=9^9) only[go_sem,hs']
    repeat refine And.intro (by first|omega|(constructor<;>omega)|kernel_rfl) ?_
    refine CallW.mk (l04Cmp_fn p q hp hq) ?_
    try simp (maxSteps:=9^9) only[go_sem]
    try simp (maxSteps:=9^9) only[go_sem,h]
    repeat refine And.intro (by first|omega|(constructor<;>omega)|kernel_rfl) ?_
    refine CallW.mk (copyD_fn p hp) ?_
    try simp (maxSteps:=9^9) only[go_sem]
   ·have e3:maxO (some p) (some q)=some q:=if_neg h
    rw [e3]
    refine fn_enter tabOK mixes Tryz.func249 rfl rfl _ Tryz.ntmps249 _ Tryz.results249 (by simp) fun hwf=>?_
    try simp (maxSteps:=9^9) only[go_sem]
    repeat refine And.intro (by first|omega|(constructor<;>omega)|kernel_rfl) ?_
    refine CallW.mk (specRatOk_fn (ratD p)) ?_
    try simp (maxSteps:=9^9) only[go_sem]
    try simp (maxSteps:=9^9) only[go_sem,hr']
    repeat refine And.intro (by first|omega|(constructor<;>omega)|kernel_rfl) ?_
    refine CallW.mk (specRatOk_fn (ratD q)) ?_
    try simp (maxSteps:=9^9) only[go_sem]
    try simp (maxSteps:=9^9) only[go_sem,hs']
    repeat refine And.intro (by first|omega|(constructor<;>omega)|kernel_rfl) ?_
    refine CallW.mk (l04Cmp_fn p q hp hq) ?_
    try simp (maxSteps:=9^9) only[go_sem]
    try simp (maxSteps:=9^9) only[go_sem,h]
    repeat refine And.intro (by first|omega|(constructor<;>omega)|kernel_rfl) ?_
    refine CallW.mk (copyD_fn q hq) ?_
    try simp (maxSteps:=9^9) only[go_sem]
theorem specRatSign_fn (r:DR):Fn Tryz.prog 246 [⟨tRat,r⟩] false [⟨.int,sgnO (rdO r)⟩]:=by
 cases hr:okR r
 ·rw [okR_f hr]
  refine fn_enter tabOK mixes Tryz.func246 rfl rfl _ Tryz.ntmps246 _ Tryz.results246 (by simp) fun hwf=>?_
  try simp (maxSteps:=9^9) only[go_sem]
  repeat refine And.intro (by first|omega|(constructor<;>omega)|kernel_rfl) ?_
  refine CallW.mk (specRatOk_fn r) ?_
  try simp (maxSteps:=9^9) only[go_sem]
  try simp (maxSteps:=9^9) only[go_sem,hr]
  rfl
 ·obtain ⟨p,hp,rfl,e1⟩:=okR_t hr
  rw [e1]
  have hr':okR ((decide (p.num < 0),natL p.num.natAbs),natL p.den)=true:=hr
  have e:sgnO (some p)=cmpZ p.num 0:=cmpQ_zero p
  rw [e]
  by_cases h0:(nl p.num.natAbs:Int)=0
  ·have:p.num=0:=by have:=nl_eq_zero.1 (show nl p.num.natAbs=0 by omega); omega
   refine fn_enter tabOK mixes Tryz.func246 rfl rfl _ Tryz.ntmps246 _ Tryz.results246 (by simp) fun hwf=>?_
   try simp (maxSteps:=9^9) only[go_sem]
   repeat refine And.intro (by first|omega|(constructor<;>omega)|kernel_rfl) ?_
   refine CallW.mk (specRatOk_fn (ratD p)) ?_
   try simp (maxSteps:=9^9) only[go_sem]
   try simp (maxSteps:=9^9) only[go_sem,hr']
   try simp (maxSteps:=9^9) only[go_sem,h0]
   simp [cmpZ,this]
  ·have h1:p.num ≠ 0:=fun h=>h0 (by rw [h]; simp [nl_zero])
   by_cases h2:p.num < 0
   ·refine fn_enter tabOK mixes Tryz.func246 rfl rfl _ Tryz.ntmps246 _ Tryz.results246 (by simp) fun hwf=>?_
    try simp (maxSteps:=9^9) only[go_sem]
    repeat refine And.intro (by first|omega|(constructor<;>omega)|kernel_rfl) ?_
    refine CallW.mk (specRatOk_fn (ratD p)) ?_
    try simp (maxSteps:=9^9) only[go_sem]
    try simp (maxSteps:=9^9) only[go_sem,hr']
    try simp (maxSteps:=9^9) only[go_sem,h0,h2]
    simp [cmpZ,h2]
   ·have h3:0 < p.num:=by omega
    refine fn_enter tabOK mixes Tryz.func246 rfl rfl _ Tryz.ntmps246 _ Tryz.results246 (by simp) fun hwf=>?_
    try simp (maxSteps:=9^9) only[go_sem]
    repeat refine And.intro (by first|omega|(constructor<;>omega)|kernel_rfl) ?_
    refine CallW.mk (specRatOk_fn (ratD p)) ?_
    try simp (maxSteps:=9^9) only[go_sem]
    try simp (maxSteps:=9^9) only[go_sem,hr']
    try simp (maxSteps:=9^9) only[go_sem,h0,h2]
    simp [cmpZ,h2,h3]
theorem sgn_negZ (z:Int):sgn (!decide (z < 0)) z.natAbs=-z:=by
 unfold sgn
 by_cases h:z < 0
 ·simp [h]; omega
 ·simp [h]; omega
theorem l04Neg_fn (p:Rat) (hp:small p):Fn Tryz.prog 152 [⟨tRat,ratD p⟩] true [⟨tRat,ratD (-p)⟩]:=by
 obtain ⟨p1,p2⟩:=hp
 refine fn_enter tabOK mixes Tryz.func152 rfl rfl _ Tryz.ntmps152 _ Tryz.results152 (by simp) fun hwf=>?_
 try simp (maxSteps:=9^9) only[go_sem]
 repeat refine And.intro (by first|omega|(constructor<;>omega)|kernel_rfl) ?_
 refine CallW.mk (l03Make_to (sgn_negZ p.num) (by omega)) ?_
 try simp (maxSteps:=9^9) only[go_sem]
 try simp (maxSteps:=9^9) only[go_sem,Rat.neg_num,Rat.neg_den]
 all_goals repeat refine And.intro (by first|omega|(constructor<;>omega)|kernel_rfl) ?_
 all_goals first|kernel_rfl|omega|rfl
theorem natL_1:natL 1=[1]:=natL_one (by decide) (by decide)
theorem l04Add_fn (p q:Rat) (hp:small p) (hq:small q):Fn Tryz.prog 151 [⟨tRat,ratD p⟩,⟨tRat,ratD q⟩] true [⟨tRat,oD (capR (p+q))⟩]:=by
 obtain ⟨p1,p2⟩:=hp
 obtain ⟨q1,q2⟩:=hq
 have b1:=nl_mulZ p.num q.den
 have b2:=nl_mulZ q.num p.den
 have b3:=nl_addZ (p.num * q.den) (q.num * p.den)
 have b4:=nl_mul p.den q.den
 have b5:=nl_mul p.num.natAbs q.den
 have b6:=nl_mul q.num.natAbs p.den
 have b7:=nl_addZ p.num q.num
 have hl:=l04Low_fn (decide (p.num * q.den+q.num * p.den < 0)) (p.num * q.den+q.num * p.den).natAbs (p.den * q.den) (den_mul_ne p q) (by omega) (by omega)
 rw [sgn_bigD,<-add_mk] at hl
 by_cases h1:p.den=1
 ·by_cases h2:q.den=1
  ·have hl1:=l04Low_fn (decide (p.num+q.num < 0)) (p.num+q.num).natAbs 1 (by decide) (by omega) (by have:=nl_small (n:=1) (by decide); omega)
   have e:_root_.mkRat (p.num+q.num) 1=p+q:=by rw [add_mk,h1,h2]; simp
   rw [sgn_bigD,natL_1,e] at hl1
   have d1:decide (p.den=1)=true:=decide_eq_true h1
   have d2:decide (q.den=1)=true:=decide_eq_true h2
   refine fn_enter tabOK mixes Tryz.func151 rfl rfl _ Tryz.ntmps151 _ Tryz.results151 (by simp) fun hwf=>?_
   try simp (maxSteps:=9^9) only[go_sem]
   repeat refine And.intro (by first|omega|(constructor<;>omega)|kernel_rfl) ?_
   refine CallW.mk (l04One_fn p.den) ?_
   try simp (maxSteps:=9^9) only[go_sem]
   try simp (maxSteps:=9^9) only[go_sem,d1]
   repeat refine And.intro (by first|omega|(constructor<;>omega)|kernel_rfl) ?_
   refine CallW.mk (l04One_fn q.den) ?_
   try simp (maxSteps:=9^9) only[go_sem]
   try simp (maxSteps:=9^9) only[go_sem,d2]
   repeat refine And.intro (by first|omega|(constructor<;>omega)|kernel_rfl) ?_
   refine CallW.mk (l03Add_fn p.num q.num (by omega) (by omega)) ?_
   try simp (maxSteps:=9^9) only[go_sem]
   repeat refine And.intro (by first|omega|(constructor<;>omega)|kernel_rfl) ?_
   refine CallW.mk (hl1) ?_
   try simp (maxSteps:=9^9) only[go_sem]
   all_goals repeat refine And.intro (by first|omega|(constructor<;>omega)|kernel_rfl) ?_
   all_goals first|kernel_rfl|omega|rfl
  ·have d1:decide (p.den=1)=true:=decide_eq_true h1
   have d2:decide (q.den=1)=false:=decide_eq_false h2
   refine fn_enter tabOK mixes Tryz.func151 rfl rfl _ Tryz.ntmps151 _ Tryz.results151 (by simp) fun hwf=>?_
   try simp (maxSteps:=9^9) only[go_sem]
   repeat refine And.intro (by first|omega|(constructor<;>omega)|kernel_rfl) ?_
   refine CallW.mk (l04One_fn p.den) ?_
   try simp (maxSteps:=9^9) only[go_sem]
   try simp (maxSteps:=9^9) only[go_sem,d1]
   repeat refine And.intro (by first|omega|(constructor<;>omega)|kernel_rfl) ?_
   refine CallW.mk (l04One_fn q.den) ?_
   try simp (maxSteps:=9^9) only[go_sem]
   try simp (maxSteps:=9^9) only[go_sem,d2]
   repeat refine And.intro (by first|omega|(constructor<;>omega)|kernel_rfl) ?_
   refine CallW.mk (l02Mul_fn p.num.natAbs q.den (by omega) (by omega)) ?_
   try simp (maxSteps:=9^9) only[go_sem]
   repeat refine And.intro (by first|omega|(constructor<;>omega)|kernel_rfl) ?_
   refine CallW.mk (l03Make_to (sgn_mulN p.num q.den) (by omega)) ?_
   try simp (maxSteps:=9^9) only[go_sem]
   repeat refine And.intro (by first|omega|(constructor<;>omega)|kernel_rfl) ?_
   refine CallW.mk (l02Mul_fn q.num.natAbs p.den (by omega) (by omega)) ?_
   try simp (maxSteps:=9^9) only[go_sem]
   repeat refine And.intro (by first|omega|(constructor<;>omega)|kernel_rfl) ?_
   refine CallW.mk (l03Make_to (sgn_mulN q.num p.den) (by omega)) ?_
   try simp (maxSteps:=9^9) only[go_sem]
   repeat refine And.intro (by first|omega|(constructor<;>omega)|kernel_rfl) ?_
   refine CallW.mk (l03Add_fn (p.num * q.den) (q.num * p.den) (by omega) (by omega)) ?_
   try simp (maxSteps:=9^9) only[go_sem]
   repeat refine And.intro (by first|omega|(constructor<;>omega)|kernel_rfl) ?_
   refine CallW.mk (l02Mul_fn p.den q.den (by omega) (by omega)) ?_
   try simp (maxSteps:=9^9) only[go_sem]
   repeat refine And.intro (by first|omega|(constructor<;>omega)|kernel_rfl) ?_
   refine CallW.mk (hl) ?_
   try simp (maxSteps:=9^9) only[go_sem]
   all_goals repeat refine And.intro (by first|omega|(constructor<;>omega)|kernel_rfl) ?_
   all_goals first|kernel_rfl|omega|rfl
 ·have d1:decide (p.den=1)=false:=decide_eq_false h1
  refine fn_enter tabOK mixes Tryz.func151 rfl rfl _ Tryz.ntmps151 _ Tryz.results151 (by simp) fun hwf=>?_
  try simp (maxSteps:=9^9) only[go_sem]
  repeat refine And.intro (by first|omega|(constructor<;>omega)|kernel_rfl) ?_
  refine CallW.mk (l04One_fn p.den) ?_
  try simp (maxSteps:=9^9) only[go_sem]
  try simp (maxSteps:=9^9) only[go_sem,d1]
  repeat refine And.intro (by first|omega|(constructor<;>omega)|kernel_rfl) ?_
  refine CallW.mk (l02Mul_fn p.num.natAbs q.den (by omega) (by omega)) ?_
  try simp (maxSteps:=9^9) only[go_sem]
  repeat refine And.intro (by first|omega|(constructor<;>omega)|kernel_rfl) ?_
  refine CallW.mk (l03Make_to (sgn_mulN p.num q.den) (by omega)) ?_
  try simp (maxSteps:=9^9) only[go_sem]
  repeat refine And.intro (by first|omega|(constructor<;>omega)|kernel_rfl) ?_
  refine CallW.mk (l02Mul_fn q.num.natAbs p.den (by omega) (by omega)) ?_
  try simp (maxSteps:=9^9) only[go_sem]
  repeat refine And.intro (by first|omega|(constructor<;>omega)|kernel_rfl) ?_
  refine CallW.mk (l03Make_to (sgn_mulN q.num p.den) (by omega)) ?_
  try simp (maxSteps:=9^9) only[go_sem]
  repeat refine And.intro (by first|omega|(constructor<;>omega)|kernel_rfl) ?_
  refine CallW.mk (l03Add_fn (p.num * q.den) (q.num * p.den) (by omega) (by omega)) ?_
  try simp (maxSteps:=9^9) only[go_sem]
  repeat refine And.intro (by first|omega|(constructor<;>omega)|kernel_rfl) ?_
  refine CallW.mk (l02Mul_fn p.den q.den (by omega) (by omega)) ?_
  try simp (maxSteps:=9^9) only[go_sem]
  repeat refine And.intro (by first|omega|(constructor<;>omega)|kernel_rfl) ?_
  refine CallW.mk (hl) ?_
  try simp (maxSteps:=9^9) only[go_sem]
  all_goals repeat refine And.intro (by first|omega|(constructor<;>omega)|kernel_rfl) ?_
  all_goals first|kernel_rfl|omega|rfl
end Go.Proofs.YtffdhjnbppagjaaGreat.DW

namespace Go.Proofs.YtffdhjnbppagjaaGreat.DW
open Go.RowKit
theorem okR_oD {r:DR} (h:okR r=true):oD (rdO r)=r:=by
 obtain ⟨q,_,e1,e2⟩:=okR_t h
 rw [e2,e1]; rfl
end Go.Proofs.YtffdhjnbppagjaaGreat.DW

namespace Go.Proofs.YtffdhjnbppagjaaGreat.DW
open Go.RowKit
attribute [go_sem] Prod.eta
abbrev DP:Type:=DR × DR
noncomputable def okPt (p:DP):Bool:=okR p.1 && okR p.2
theorem implIsValidPoint_fn (p:DP):Fn Tryz.prog 166 [⟨tPoint,p⟩] false [⟨.bool,okPt p⟩]:=by
 cases h:okR p.1
 ·refine fn_enter tabOK mixes Tryz.func166 rfl rfl _ Tryz.ntmps166 _ Tryz.results166 (by simp) fun hwf=>?_
  try simp (maxSteps:=9^9) only[go_sem]
  repeat refine And.intro (by first|omega|(constructor<;>omega)|kernel_rfl) ?_
  refine CallW.mk (implRatOk_fn p.1) ?_
  try simp (maxSteps:=9^9) only[go_sem]
  try simp (maxSteps:=9^9) only[go_sem,h]
  repeat refine And.intro (by first|omega|(constructor<;>omega)|kernel_rfl) ?_
  simp [okPt,h]
 ·refine fn_enter tabOK mixes Tryz.func166 rfl rfl _ Tryz.ntmps166 _ Tryz.results166 (by simp) fun hwf=>?_
  try simp (maxSteps:=9^9) only[go_sem]
  repeat refine And.intro (by first|omega|(constructor<;>omega)|kernel_rfl) ?_
  refine CallW.mk (implRatOk_fn p.1) ?_
  try simp (maxSteps:=9^9) only[go_sem]
  try simp (maxSteps:=9^9) only[go_sem,h]
  repeat refine And.intro (by first|omega|(constructor<;>omega)|kernel_rfl) ?_
  refine CallW.mk (implRatOk_fn p.2) ?_
  try simp (maxSteps:=9^9) only[go_sem]
  repeat refine And.intro (by first|omega|(constructor<;>omega)|kernel_rfl) ?_
  simp [okPt,h]
theorem specIsValidPoint_fn (p:DP):Fn Tryz.prog 158 [⟨tPoint,p⟩] false [⟨.bool,okPt p⟩]:=by
 cases h:okR p.1
 ·refine fn_enter tabOK mixes Tryz.func158 rfl rfl _ Tryz.ntmps158 _ Tryz.results158 (by simp) fun hwf=>?_
  try simp (maxSteps:=9^9) only[go_sem]
  repeat refine And.intro (by first|omega|(constructor<;>omega)|kernel_rfl) ?_
  refine CallW.mk (specRatOk_fn p.1) ?_
  try simp (maxSteps:=9^9) only[go_sem]
  try simp (maxSteps:=9^9) only[go_sem,h]
  repeat refine And.intro (by first|omega|(constructor<;>omega)|kernel_rfl) ?_
  simp [okPt,h]
 ·refine fn_enter tabOK mixes Tryz.func158 rfl rfl _ Tryz.ntmps158 _ Tryz.results158 (by simp) fun hwf=>?_
  try simp (maxSteps:=9^9) only[go_sem]
  repeat refine And.intro (by first|omega|(constructor<;>omega)|kernel_rfl) ?_
  refine CallW.mk (specRatOk_fn p.1) ?_
  try simp (maxSteps:=9^9) only[go_sem]
  try simp (maxSteps:=9^9) only[go_sem,h]
  repeat refine And.intro (by first|omega|(constructor<;>omega)|kernel_rfl) ?_
  refine CallW.mk (specRatOk_fn p.2) ?_
  try simp (maxSteps:=9^9) only[go_sem]
  repeat refine And.intro (by first|omega|(constructor<;>omega)|kernel_rfl) ?_
  simp [okPt,h]
theorem indexFunc_pt_fn (F:FuncId) (p:DP->Bool) (hF:∀ x:DP,Fn Tryz.prog F [⟨tPoint,x⟩] false [⟨.bool,p x⟩]) (l:List DP):Fn Tryz.prog 250 [⟨.slice tPoint,l⟩,⟨.cst (.fn F),()⟩] false [⟨.int,ixf (t:=tPoint) p l⟩]:=by
 refine fn_enter tabOK mixes Tryz.func250 rfl rfl _ Tryz.ntmps250 _ Tryz.results250 (by simp) fun hwf=>?_
 have hl:l.length<=9223372036854775807:=(hwf ⟨.slice tPoint,l⟩ (by simp)).1
 try simp (maxSteps:=9^9) only[go_sem]
 refine LoopG.intro _ _ _ (fun i:Nat=>⟨[(0,.sl tPoint l),(1,.sc (.func (.func F) #[] #[])),(7,.sc (.int .i64 l.length)),(8,.sc (.int .i64 i))],[]⟩) (fun i=>∀ j < i,j < l.length->p (nth (t:=tPoint) l j)=false) (fun i=>l.length - i) 0 ?_ (fun j h=>by simp at h) ?_
 ·refine Wk.mk [] ?_
  try simp (maxSteps:=9^9) only[go_sem]
  try (and_intros<;>first|rfl|omega|exact ⟨_,rfl⟩)
 ·rintro i h2
  try simp (maxSteps:=9^9) only[go_sem]
  refine CondW_dec (fun h3=>?_) (fun h3=>?_)
  ·try simp (maxSteps:=9^9) only[go_sem]
   repeat refine And.intro (by first|omega|(constructor<;>omega)|kernel_rfl) ?_
   refine CallW.mk (hF (nth (t:=tPoint) l i)) ?_
   try simp (maxSteps:=9^9) only[go_sem]
   refine CondW_b (fun h4=>?_) (fun h4=>?_)
   ·try simp (maxSteps:=9^9) only[go_sem]
    exact (ixf_at (by omega) h4 (fun j hj=>h2 j hj (by omega))).symm
   ·try simp (maxSteps:=9^9) only[go_sem]
    repeat refine And.intro (by first|omega|(constructor<;>omega)|kernel_rfl) ?_
    refine LoopK.mk (i+1) ?_ (fun j hj hl=>?_) (by omega)
    ·refine Wk.mk [] ?_
     try simp (maxSteps:=9^9) only[go_sem]
     try (and_intros<;>first|rfl|omega|exact ⟨_,rfl⟩)
    ·by_cases hj2:j < i
     ·exact h2 j hj2 hl
     ·rw [show j=i by omega]; exact h4
  ·try simp (maxSteps:=9^9) only[go_sem]
   exact (ixf_none fun j hj=>h2 j (by omega) hj).symm
theorem containsFunc_pt_fn (F:FuncId) (p:DP->Bool) (hF:∀ x:DP,Fn Tryz.prog F [⟨tPoint,x⟩] false [⟨.bool,p x⟩]) (l:List DP):Fn Tryz.prog 164 [⟨.slice tPoint,l⟩,⟨.cst (.fn F),()⟩] false [⟨.bool,l.any p⟩]:=by
 refine fn_enter tabOK mixes Tryz.func164 rfl rfl _ Tryz.ntmps164 _ Tryz.results164 (by simp) fun hwf=>?_
 try simp (maxSteps:=9^9) only[go_sem]
 repeat refine And.intro (by first|omega|(constructor<;>omega)|kernel_rfl) ?_
 refine CallW.mk (indexFunc_pt_fn F p hF l) ?_
 try simp (maxSteps:=9^9) only[go_sem]
 exact ixf_any
theorem arePointsC_fn (p:DP):Fn Tryz.prog 165 [⟨tPoint,p⟩] false [⟨.bool,!okPt p⟩]:=by
 refine fn_enter tabOK mixes Tryz.func165 rfl rfl _ Tryz.ntmps165 _ Tryz.results165 (by simp) fun hwf=>?_
 try simp (maxSteps:=9^9) only[go_sem]
 repeat refine And.intro (by first|omega|(constructor<;>omega)|kernel_rfl) ?_
 refine CallW.mk (implIsValidPoint_fn p) ?_
 try simp (maxSteps:=9^9) only[go_sem]
theorem arePoints_fn (l:List DP):Fn Tryz.prog 79 [⟨.slice tPoint,l⟩] false [⟨.bool,!(l.any fun p=>!okPt p)⟩]:=by
 refine fn_enter tabOK mixes Tryz.func79 rfl rfl _ Tryz.ntmps79 _ Tryz.results79 (by simp) fun hwf=>?_
 try simp (maxSteps:=9^9) only[go_sem]
 repeat refine And.intro (by first|omega|(constructor<;>omega)|kernel_rfl) ?_
 refine CallW.mk (containsFunc_pt_fn _ _ arePointsC_fn l) ?_
 try simp (maxSteps:=9^9) only[go_sem]
theorem arePoints2_fn (p q:DP):Fn Tryz.prog 79 [⟨.slice tPoint,[p,q]⟩] false [⟨.bool,okPt p && okPt q⟩]:=by
 have h:=arePoints_fn [p,q]
 have e:(!([p,q].any fun p=>!okPt p))=(okPt p && okPt q):=by simp
 rw [e] at h; exact h
theorem arePoints1_fn (p:DP):Fn Tryz.prog 79 [⟨.slice tPoint,[p]⟩] false [⟨.bool,okPt p⟩]:=by
 have h:=arePoints_fn [p]
 have e:(!([p].any fun p=>!okPt p))=okPt p:=by simp
 rw [e] at h; exact h
theorem subO_none_l (y:Option Rat):subO none y=none:=rfl
theorem subO_none_r (x:Option Rat):subO x none=none:=by cases x<;>rfl
theorem specRatSub_fn (r s:DR):Fn Tryz.prog 69 [⟨tRat,r⟩,⟨tRat,s⟩] true [⟨tRat,oD (subO (rdO r) (rdO s))⟩]:=by
 cases hr:okR r
 ·rw [okR_f hr,subO_none_l]
  refine fn_enter tabOK mixes Tryz.func69 rfl rfl _ Tryz.ntmps69 _ Tryz.results69 (by simp) fun hwf=>?_
  try simp (maxSteps:=9^9) only[go_sem]
  repeat refine And.intro (by first|omega|(constructor<;>omega)|kernel_rfl) ?_
  refine CallW.mk (specRatOk_fn r) ?_
  try simp (maxSteps:=9^9) only[go_sem]
  try simp (maxSteps:=9^9) only[go_sem,hr]
 ·cases hs:okR s
  ·rw [okR_f hs,subO_none_r]
   refine fn_enter tabOK mixes Tryz.func69 rfl rfl _ Tryz.ntmps69 _ Tryz.results69 (by simp) fun hwf=>?_
   try simp (maxSteps:=9^9) only[go_sem]
   repeat refine And.intro (by first|omega|(constructor<;>omega)|kernel_rfl) ?_
   refine CallW.mk (specRatOk_fn r) ?_
   try simp (maxSteps:=9^9) only[go_sem]
   try simp (maxSteps:=9^9) only[go_sem,hr]
   repeat refine And.intro (by first|omega|(constructor<;>omega)|kernel_rfl) ?_
   refine CallW.mk (specRatOk_fn s) ?_
   try simp (maxSteps:=9^9) only[go_sem]
   try simp (maxSteps:=9^9) only[go_sem,hs]
  ·obtain ⟨p,hp,rfl,e1⟩:=okR_t hr
   obtain ⟨q,hq,rfl,e2⟩:=okR_t hs
   rw [e1,e2]
   have hr':okR ((decide (p.num < 0),natL p.num.natAbs),natL p.den)=true:=hr
   have hs':okR ((decide (q.num < 0),natL q.num.natAbs),natL q.den)=true:=hs
   have e:subO (some p) (some q)=capR (p+-q):=rfl
   rw [e]
   refine fn_enter tabOK mixes Tryz.func69 rfl rfl _ Tryz.ntmps69 _ Tryz.results69 (by simp) fun hwf=>?_
   try simp (maxSteps:=9^9) only[go_sem]
   repeat refine And.intro (by first|omega|(constructor<;>omega)|kernel_rfl) ?_
   refine CallW.mk (specRatOk_fn (ratD p)) ?_
   try simp (maxSteps:=9^9) only[go_sem]
   try simp (maxSteps:=9^9) only[go_sem,hr']
   repeat refine And.intro (by first|omega|(constructor<;>omega)|kernel_rfl) ?_
   refine CallW.mk (specRatOk_fn (ratD q)) ?_
   try simp (maxSteps:=9^9) only[go_sem]
   try simp (maxSteps:=9^9) only[go_sem,hs']
   repeat refine And.intro (by first|omega|(constructor<;>omega)|kernel_rfl) ?_
   refine CallW.mk (l04Neg_fn q hq) ?_
   try simp (maxSteps:=9^9) only[go_sem]
   repeat refine And.intro (by first|omega|(constructor<;>omega)|kernel_rfl) ?_
   refine CallW.mk (l04Add_fn p (-q) hp (small_neg hq)) ?_
   try simp (maxSteps:=9^9) only[go_sem]
   all_goals repeat refine And.intro (by first|omega|(constructor<;>omega)|kernel_rfl) ?_
   all_goals first|kernel_rfl|omega|rfl
end Go.Proofs.YtffdhjnbppagjaaGreat.DW

namespace Go.Proofs.YtffdhjnbppagjaaGreat.DW
open Go.RowKit
abbrev DS:Type:=Int × DP
theorem isHeading_fn (n:Int):Fn Tryz.prog 184 [⟨.int,n⟩] false [⟨.bool,decide (0<=n/\n<=3)⟩]:=by
 refine fn_enter tabOK mixes Tryz.func184 rfl rfl _ Tryz.ntmps184 _ Tryz.results184 (by simp) fun hwf=>?_
 try simp (maxSteps:=9^9) only[go_sem]
 repeat refine And.intro (by first|omega|(constructor<;>omega)|kernel_rfl) ?_
 refine CallW.mk (within_fn n 0 3) ?_
 try simp (maxSteps:=9^9) only[go_sem]
def nxH (h t:Int):Int:=if (0<=h/\h<=3)/\(t=1\/t=-1) then (h+t+4) % 4 else -1
theorem nxH_bad {h:Int} (t:Int) (hh:¬ (0<=h/\h<=3)):nxH h t=-1:=if_neg fun h=>hh h.1
theorem nxH_off (h:Int) {t:Int} (h1:¬ t=1) (h2:¬ t=-1):nxH h t=-1:=if_neg fun h=>h.2.elim h1 h2
theorem nxH_in {h t:Int} (hh:0<=h/\h<=3) (ht:t=1\/t=-1):nxH h t=(h+t+4) % 4:=if_pos ⟨hh,ht⟩
theorem implNextHeading_fn (h t:Int):Fn Tryz.prog 189 [⟨.int,h⟩,⟨.int,t⟩] false [⟨.int,nxH h t⟩]:=by
 have c1:=isHeading_fn h
 by_cases hh:0<=h/\h<=3
 ·rw [decide_eq_true hh] at c1
  by_cases h1:t=1
  ·subst h1
   rw [nxH_in hh (.inl rfl)]
   refine fn_enter tabOK mixes Tryz.func189 rfl rfl _ Tryz.ntmps189 _ Tryz.results189 (by simp) fun hwf=>?_
   try simp (maxSteps:=9^9) only[go_sem]
   repeat refine And.intro (by first|omega|(constructor<;>omega)|kernel_rfl) ?_
   refine CallW.mk (c1) ?_
   try simp (maxSteps:=9^9) only[go_sem]
   repeat refine And.intro (by first|omega|(constructor<;>omega)|kernel_rfl) ?_
   refine RemW.pos (by omega) (by omega) ?_
   try simp (maxSteps:=9^9) only[go_sem]
  ·by_cases h2:t=-1
   ·subst h2
    rw [nxH_in hh (.inr rfl)]
    refine fn_enter tabOK mixes Tryz.func189 rfl rfl _ Tryz.ntmps189 _ Tryz.results189 (by simp) fun hwf=>?_
    try simp (maxSteps:=9^9) only[go_sem]
    repeat refine And.intro (by first|omega|(constructor<;>omega)|kernel_rfl) ?_
    refine CallW.mk (c1) ?_
    try simp (maxSteps:=9^9) only[go_sem]
    repeat refine And.intro (by first|omega|(constructor<;>omega)|kernel_rfl) ?_
    refine RemW.pos (by omega) (by omega) ?_
    try simp (maxSteps:=9^9) only[go_sem]
   ·rw [nxH_off h h1 h2]
    refine fn_enter tabOK mixes Tryz.func189 rfl rfl _ Tryz.ntmps189 _ Tryz.results189 (by simp) fun hwf=>?_
    try simp (maxSteps:=9^9) only[go_sem]
    repeat refine And.intro (by first|omega|(constructor<;>omega)|kernel_rfl) ?_
    refine CallW.mk (c1) ?_
    try simp (maxSteps:=9^9) only[go_sem]
    try simp (maxSteps:=9^9) only[go_sem,h1,h2]
 ·rw [decide_eq_false hh] at c1
  rw [nxH_bad t hh]
  refine fn_enter tabOK mixes Tryz.func189 rfl rfl _ Tryz.ntmps189 _ Tryz.results189 (by simp) fun hwf=>?_
  try simp (maxSteps:=9^9) only[go_sem]
  repeat refine And.intro (by first|omega|(constructor<;>omega)|kernel_rfl) ?_
  refine CallW.mk (c1) ?_
  try simp (maxSteps:=9^9) only[go_sem]
theorem specNextHeading_fn (h t:Int):Fn Tryz.prog 178 [⟨.int,h⟩,⟨.int,t⟩] false [⟨.int,nxH h t⟩]:=by
 have c1:=l01In_fn h 0 3
 by_cases hh:0<=h/\h<=3
 ·rw [decide_eq_true hh] at c1
  by_cases h1:t=1
  ·subst h1
   rw [nxH_in hh (.inl rfl),show h+1+4=h+4+1 by omega]
   refine fn_enter tabOK mixes Tryz.func178 rfl rfl _ Tryz.ntmps178 _ Tryz.results178 (by simp) fun hwf=>?_
   try simp (maxSteps:=9^9) only[go_sem]
   repeat refine And.intro (by first|omega|(constructor<;>omega)|kernel_rfl) ?_
   refine CallW.mk (c1) ?_
   try simp (maxSteps:=9^9) only[go_sem]
   repeat refine And.intro (by first|omega|(constructor<;>omega)|kernel_rfl) ?_
   refine RemW.pos (by omega) (by omega) ?_
   try simp (maxSteps:=9^9) only[go_sem]
  ·by_cases h2:t=-1
   ·subst h2
    rw [nxH_in hh (.inr rfl),show h+-1+4=h+4+-1 by omega]
    refine fn_enter tabOK mixes Tryz.func178 rfl rfl _ Tryz.ntmps178 _ Tryz.results178 (by simp) fun hwf=>?_
    try simp (maxSteps:=9^9) only[go_sem]
    repeat refine And.intro (by first|omega|(constructor<;>omega)|kernel_rfl) ?_
    refine CallW.mk (c1) ?_
    try simp (maxSteps:=9^9) only[go_sem]
    repeat refine And.intro (by first|omega|(constructor<;>omega)|kernel_rfl) ?_
    refine RemW.pos (by omega) (by omega) ?_
    try simp (maxSteps:=9^9) only[go_sem]
   ·rw [nxH_off h h1 h2]
    refine fn_enter tabOK mixes Tryz.func178 rfl rfl _ Tryz.ntmps178 _ Tryz.results178 (by simp) fun hwf=>?_
    try simp (maxSteps:=9^9) only[go_sem]
    repeat refine And.intro (by first|omega|(constructor<;>omega)|kernel_rfl) ?_
    refine CallW.mk (c1) ?_
    try simp (maxSteps:=9^9) only[go_sem]
    try simp (maxSteps:=9^9) only[go_sem,h1,h2]
 ·rw [decide_eq_false hh] at c1
  rw [nxH_bad t hh]
  refine fn_enter tabOK mixes Tryz.func178 rfl rfl _ Tryz.ntmps178 _ Tryz.results178 (by simp) fun hwf=>?_
  try simp (maxSteps:=9^9) only[go_sem]
  repeat refine And.intro (by first|omega|(constructor<;>omega)|kernel_rfl) ?_
  refine CallW.mk (c1) ?_
  try simp (maxSteps:=9^9) only[go_sem]
def stp (p x:DS):DS:=if x.1=0 then (p.1,x.2) else if x.1=1\/x.1=-1 then (nxH p.1 x.1,p.2) else p
theorem stp_0 {p x:DS} (h:x.1=0):stp p x=(p.1,x.2):=if_pos h
theorem stp_t {p x:DS} (h:x.1=1\/x.1=-1):stp p x=(nxH p.1 x.1,p.2):=by
 have:¬ x.1=0:=by omega
 unfold stp; rw [if_neg this,if_pos h]
theorem stp_n {p x:DS} (h0:¬ x.1=0) (h1:¬ x.1=1) (h2:¬ x.1=-1):stp p x=p:=by
 unfold stp; rw [if_neg h0,if_neg (by omega)]
theorem stepped_fn (p x:DS):Fn Tryz.prog 103 [⟨tStep,p⟩,⟨tStep,x⟩] false [⟨tStep,stp p x⟩]:=by
 obtain ⟨h,p⟩:=p
 obtain ⟨t,q⟩:=x
 have c1:=implNextHeading_fn h t
 by_cases h0:t=0
 ·subst h0
  rw [stp_0 rfl]
  refine fn_enter tabOK mixes Tryz.func103 rfl rfl _ Tryz.ntmps103 _ Tryz.results103 (by simp) fun hwf=>?_
  try simp (maxSteps:=9^9) only[go_sem]
 ·by_cases h1:t=1
  ·subst h1
   rw [stp_t (.inl rfl)]
   refine fn_enter tabOK mixes Tryz.func103 rfl rfl _ Tryz.ntmps103 _ Tryz.results103 (by simp) fun hwf=>?_
   try simp (maxSteps:=9^9) only[go_sem]
   repeat refine And.intro (by first|omega|(constructor<;>omega)|kernel_rfl) ?_
   refine CallW.mk (c1) ?_
   try simp (maxSteps:=9^9) only[go_sem]
  ·by_cases h2:t=-1
   ·subst h2
    rw [stp_t (.inr rfl)]
    refine fn_enter tabOK mixes Tryz.func103 rfl rfl _ Tryz.ntmps103 _ Tryz.results103 (by simp) fun hwf=>?_
    try simp (maxSteps:=9^9) only[go_sem]
    repeat refine And.intro (by first|omega|(constructor<;>omega)|kernel_rfl) ?_
    refine CallW.mk (c1) ?_
    try simp (maxSteps:=9^9) only[go_sem]
   ·rw [stp_n h0 h1 h2]
    refine fn_enter tabOK mixes Tryz.func103 rfl rfl _ Tryz.ntmps103 _ Tryz.results103 (by simp) fun hwf=>?_
    try simp (maxSteps:=9^9) only[go_sem,h0,h1,h2]
theorem l22After_fn (p x:DS):Fn Tryz.prog 96 [⟨tStep,p⟩,⟨tStep,x⟩] false [⟨tStep,stp p x⟩]:=by
 obtain ⟨h,p⟩:=p
 obtain ⟨t,q⟩:=x
 have c1:=specNextHeading_fn h t
 by_cases h0:t=0
 ·subst h0
  rw [stp_0 rfl]
  refine fn_enter tabOK mixes Tryz.func96 rfl rfl _ Tryz.ntmps96 _ Tryz.results96 (by simp) fun hwf=>?_
  try simp (maxSteps:=9^9) only[go_sem]
 ·by_cases h1:t=1
  ·subst h1
   rw [stp_t (.inl rfl)]
   refine fn_enter tabOK mixes Tryz.func96 rfl rfl _ Tryz.ntmps96 _ Tryz.results96 (by simp) fun hwf=>?_
   try simp (maxSteps:=9^9) only[go_sem]
   repeat refine And.intro (by first|omega|(constructor<;>omega)|kernel_rfl) ?_
   refine CallW.mk (c1) ?_
   try simp (maxSteps:=9^9) only[go_sem]
  ·by_cases h2:t=-1
   ·subst h2
    rw [stp_t (.inr rfl)]
    refine fn_enter tabOK mixes Tryz.func96 rfl rfl _ Tryz.ntmps96 _ Tryz.results96 (by simp) fun hwf=>?_
    try simp (maxSteps:=9^9) only[go_sem]
    repeat refine And.intro (by first|omega|(constructor<;>omega)|kernel_rfl) ?_
    refine CallW.mk (c1) ?_
    try simp (maxSteps:=9^9) only[go_sem]
   ·rw [stp_n h0 h1 h2]
    refine fn_enter tabOK mixes Tryz.func96 rfl rfl _ Tryz.ntmps96 _ Tryz.results96 (by simp) fun hwf=>?_
    try simp (maxSteps:=9^9) only[go_sem,h0,h1,h2]
end Go.Proofs.YtffdhjnbppagjaaGreat.DW
