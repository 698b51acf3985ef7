/-
  Texts of a proof, one behind another: Z, Dw9, Dw10, Dw11, Dw12, Dw13, Dw16, Dw18, Dw21, Dw23, Dw24, Hl1, Dw40, DwV, Dw42, Dw43, Rw1, So0, So1, Cp1, Cp2, Dw44, Dw14, Dw15, CnO, Dw22, Dw17, Dw28, Ints, Own, Copy, PtOr, Dw19, Dw41, Hv1.
-/
import Derived.Shelf.GgSortFunc.InsertionK
import Derived.Shelf.SlSortCmp.NoneTotal
import Derived.Lib.SlicesCompact
import Derived.Shelf.RegionOpenPlain
import Derived.WalkKit
import Derived.Deep.LoopGhost
import Derived.Deep.Draws
import Derived.Lib.Walk
import Derived.Sort.WalkB12
import Derived.Lib.SliceRun
import Derived.Deep.AppendLies
import Derived.Test.YtbnkojgcbmfloaaGreatProg
import Derived.Deep.RegionHeld3
import Derived.Deep.RegionLaw
import Derived.Test.YtbnkojgcbmfloaaGreatKD3
set_option linter.all false
set_option maxRecDepth 100000
namespace Go.Proofs.YtbnkojgcbmfloaaGreat.DW
open Go.RowKit
abbrev DB:Type:=Bool × List Int
abbrev DR:Type:=DB × List Int
def bigD (z:Int):DB:=(decide (z < 0),natL z.natAbs)
def bZ:DB:=(false,[])
theorem bigD_zero:bigD 0=bZ:=by simp [bigD,bZ,natL_zero]
theorem bigD_inj {x y:Int} (h:bigD x=bigD y):x=y:=by
 simp only [bigD,Prod.mk.injEq,decide_eq_decide] at h
 have:=natL_inj h.2
 omega
theorem bigD_nat (n:Nat):bigD n=(false,natL n):=by
 rw [bigD,Int.natAbs_natCast,decide_eq_false (by omega)]
def sgn (s:Bool) (n:Nat):Int:=if s then -(n:Int) else n
theorem bigD_sgn (s:Bool) (n:Nat):bigD (sgn s n)=(s && decide (0 < n),natL n):=by
 cases s with
 | false=>simp only [sgn,Bool.false_eq_true,if_false,bigD_nat,Bool.false_and]
 | true =>
  simp only [sgn,if_true,bigD,Int.natAbs_neg,Int.natAbs_natCast,Bool.true_and]
  congr 1
  rw [decide_eq_decide]; omega
theorem sgn_bigD (z:Int):sgn (decide (z < 0)) z.natAbs=z:=by
 unfold sgn; split<;>simp_all<;>omega
def okBP (x:DB):Prop:=okNP x.2/\¬ (x.1=true/\x.2.length=0)
noncomputable def okB (x:DB):Bool:=bdec (okBP x)
theorem okBP_bigD {z:Int}:okBP (bigD z) ↔ nl z.natAbs<=60:=by
 unfold okBP bigD
 simp only [okNP_natL,natL_len_nl,nl_eq_zero,decide_eq_true_eq]
 constructor
 ·exact fun h=>h.1
 ·exact fun h=>⟨h,by omega⟩
theorem okBP_iff {x:DB}:okBP x ↔ ∃ z:Int,x=bigD z/\nl z.natAbs<=60:=by
 constructor
 ·intro h
  obtain ⟨n,e,hn⟩:=okNP_iff.1 h.1
  refine ⟨sgn x.1 n,?_,?_⟩
  ·rw [bigD_sgn]
   obtain ⟨s,l⟩:=x
   simp only at e h ⊢
   subst e
   have h2:=h.2
   simp only [natL_len_nl,nl_eq_zero] at h2
   cases s with
   | false=>rfl
   | true =>
    have:0 < n:=by simp at h2; omega
    simp [this]
  ·have:(sgn x.1 n).natAbs=n:=by unfold sgn; split<;>omega
   rw [this]; exact hn
 ·rintro ⟨z,rfl,h⟩; exact okBP_bigD.2 h
def cmpZ (a b:Int):Int:=if a < b then -1 else if b < a then 1 else 0
def small (q:Rat):Prop:=nl q.num.natAbs<=24/\nl q.den<=24
def ratD (q:Rat):DR:=(bigD q.num,natL q.den)
def rZ:DR:=(bZ,[])
def oD:Option Rat->DR
 | none=>rZ
 | some q=>ratD q
theorem den_pos' (q:Rat):0 < q.den:=Nat.pos_of_ne_zero q.den_nz
theorem ratD_ne (q:Rat):ratD q ≠ rZ:=fun h=>by
 have h2:natL q.den=[]:=congrArg Prod.snd h
 exact q.den_nz (natL_nil.1 h2)
theorem ratD_inj {p q:Rat} (h:ratD p=ratD q):p=q:=by
 simp only [ratD,Prod.mk.injEq] at h
 exact Rat.ext (bigD_inj h.1) (natL_inj h.2)
noncomputable def capR (q:Rat):Option Rat:=@ite _ (small q) (Classical.propDecidable _) (some q) none
theorem capR_s {q:Rat} (h:small q):capR q=some q:=if_pos h
theorem capR_n {q:Rat} (h:¬ small q):capR q=none:=if_neg h
def okO (x:Option Rat):Prop:=∀ q,x=some q->small q
theorem okO_none:okO none:=fun _ h=>by cases h
theorem okO_cap (q:Rat):okO (capR q):=fun p h=>by
 by_cases hs:small q
 ·rw [capR_s hs] at h; injection h with h; exact h ▸ hs
 ·rw [capR_n hs] at h; cases h
noncomputable def rdO (r:DR):Option Rat:=@dite _ (∃ q,small q/\r=ratD q) (Classical.propDecidable _) (fun h=>some (Classical.choose h)) (fun _=>none)
theorem rdO_ratD {q:Rat} (h:small q):rdO (ratD q)=some q:=by
 have he:∃ p,small p/\ratD q=ratD p:=⟨q,h,rfl⟩
 unfold rdO
 rw [dif_pos he]
 exact congrArg some (ratD_inj (Classical.choose_spec he).2.symm)
theorem rdO_oD {x:Option Rat} (h:okO x):rdO (oD x)=x:=by
 cases x with
 | none =>
  unfold rdO
  rw [dif_neg]
  rintro ⟨q,_,hq⟩
  exact ratD_ne q hq.symm
 | some q=>exact rdO_ratD (h q rfl)
theorem rdO_some {r:DR} {q:Rat} (h:rdO r=some q):small q/\r=ratD q:=by
 unfold rdO at h
 split at h
 ·rename_i he
  injection h with h
  rw [<-h]; exact Classical.choose_spec he
 ·cases h
theorem okO_rdO (r:DR):okO (rdO r):=fun q h=>(rdO_some h).1
noncomputable def okR (r:DR):Bool:=(rdO r).isSome
theorem okR_ratD {q:Rat} (h:small q):okR (ratD q)=true:=by rw [okR,rdO_ratD h]; rfl
theorem okR_t {r:DR} (h:okR r=true):∃ q,small q/\r=ratD q/\rdO r=some q:=by
 unfold okR at h
 cases hr:rdO r with
 | none=>rw [hr] at h; cases h
 | some q=>exact ⟨q,(rdO_some hr).1,(rdO_some hr).2,rfl⟩
theorem okR_f {r:DR} (h:okR r=false):rdO r=none:=by
 unfold okR at h
 cases hr:rdO r with
 | none=>rfl
 | some q=>rw [hr] at h; cases h
theorem okR_iff {r:DR}:okR r=true ↔ okBP r.1/\okNP r.2/\r.2 ≠ []/\r.1.2.length<=24/\r.2.length<=24/\Nat.gcd (val r.1.2) (val r.2)=1:=by
 constructor
 ·intro h
  obtain ⟨q,⟨h1,h2⟩,rfl,_⟩:=okR_t h
  simp only [ratD,bigD,natL_len_nl,val_natL]
  refine ⟨okBP_bigD.2 (by omega),okNP_natL.2 (by omega),fun h=>q.den_nz (natL_nil.1 h),h1,h2,q.reduced⟩
 ·rintro ⟨h1,h2,h3,h4,h5,h6⟩
  obtain ⟨z,hz,hzl⟩:=okBP_iff.1 h1
  obtain ⟨n,hn,hnl⟩:=okNP_iff.1 h2
  obtain ⟨x,l⟩:=r
  simp only at hz hn h3 h4 h5 h6
  subst hz hn
  simp only [bigD,natL_len_nl,val_natL] at h4 h5 h6
  have hn0:n ≠ 0:=fun h=>h3 (natL_nil.2 h)
  exact okR_ratD (q:=⟨z,n,hn0,h6⟩) ⟨h4,h5⟩
noncomputable def addO:Option Rat->Option Rat->Option Rat
 | some p,some q=>capR (p+q)
 | _,_=>none
noncomputable def mulO:Option Rat->Option Rat->Option Rat
 | some p,some q=>capR (p * q)
 | _,_=>none
noncomputable def divO:Option Rat->Option Rat->Option Rat
 | some p,some q=>@ite _ (q=0) (Classical.propDecidable _) none (capR (p / q))
 | _,_=>none
def negO:Option Rat->Option Rat
 | some p=>some (-p)
 | none=>none
noncomputable def subO (x y:Option Rat):Option Rat:=addO x (negO y)
noncomputable def cmpQ (p q:Rat):Int:=if p < q then -1 else if q < p then 1 else 0
noncomputable def cmpO:Option Rat->Option Rat->Int
 | some p,some q=>cmpQ p q
 | _,_=>0
noncomputable def sgnO:Option Rat->Int
 | some p=>cmpQ p 0
 | none=>0
theorem okO_add (x y:Option Rat):okO (addO x y):=by
 unfold addO; split
 ·exact okO_cap _
 ·exact okO_none
theorem okO_mul (x y:Option Rat):okO (mulO x y):=by
 unfold mulO; split
 ·exact okO_cap _
 ·exact okO_none
theorem small_neg {q:Rat} (h:small q):small (-q):=by
 unfold small at *
 rw [Rat.neg_num,Rat.neg_den,Int.natAbs_neg]; exact h
theorem okO_neg {x:Option Rat} (h:okO x):okO (negO x):=by
 cases x with
 | none=>exact okO_none
 | some q=>intro p hp; injection hp with hp; subst hp; exact small_neg (h q rfl)
theorem okO_sub (x y:Option Rat):okO (subO x y):=okO_add _ _
theorem mk_parts {z:Int} {n:Nat} (hn:n ≠ 0):(_root_.mkRat z n).num=z / (Nat.gcd z.natAbs n:Nat)/\(_root_.mkRat z n).den=n / Nat.gcd z.natAbs n:=by
 rw [Rat.num_mkRat,Rat.den_mkRat,if_neg hn,if_neg hn,Nat.gcd_comm]; exact ⟨rfl,rfl⟩
theorem add_mk (p q:Rat):p+q=_root_.mkRat (p.num * q.den+q.num * p.den) (p.den * q.den):=by
 have h:=Rat.mkRat_add_mkRat p.num q.num p.den_nz q.den_nz
 rw [Rat.mkRat_self,Rat.mkRat_self] at h; exact h
theorem mul_mk (p q:Rat):p * q=_root_.mkRat (p.num * q.num) (p.den * q.den):=by
 have h:=Rat.mkRat_mul_mkRat p.num q.num p.den q.den
 rw [Rat.mkRat_self,Rat.mkRat_self] at h; exact h
theorem cmpQ_eq (p q:Rat):cmpQ p q=cmpZ (p.num * q.den) (q.num * p.den):=by
 unfold cmpQ cmpZ
 simp only [Rat.lt_iff]
theorem mk_abs {z:Int} {n:Nat} (hn:n ≠ 0):(_root_.mkRat z n).num.natAbs=z.natAbs / Nat.gcd z.natAbs n/\(_root_.mkRat z n).den=n / Nat.gcd z.natAbs n/\decide ((_root_.mkRat z n).num < 0)=decide (z < 0):=by
 obtain ⟨h1,h2⟩:=mk_parts (z:=z) hn
 have hg:0 < Nat.gcd z.natAbs n:=Nat.gcd_pos_of_pos_right _ (Nat.pos_of_ne_zero hn)
 have hd:Nat.gcd z.natAbs n ∣ z.natAbs:=Nat.gcd_dvd_left ..
 rw [h1,h2]
 generalize Nat.gcd z.natAbs n=g at *
 obtain ⟨k,hk⟩:=hd
 have hk2:z.natAbs / g=k:=by rw [hk,Nat.mul_div_cancel_left _ hg]
 have hz:z=sgn (decide (z < 0)) z.natAbs:=(sgn_bigD z).symm
 have hgz:z / (g:Int)=sgn (decide (z < 0)) k:=by
  have hg':(g:Int) ≠ 0:=by omega
  have e:z=(g:Int) * sgn (decide (z < 0)) k:=by
   rw [hk] at hz
   by_cases h:z < 0
   ·simp only [sgn,h,decide_true,if_true,Int.natCast_mul] at hz ⊢
    rw [Int.mul_neg]; exact hz
   ·simp only [sgn,h,decide_false,Bool.false_eq_true,if_false,Int.natCast_mul] at hz ⊢
    exact hz
  conv=>lhs; rw [e]
  exact Int.mul_ediv_cancel_left _ hg'
 rw [hgz,hk2]
 refine ⟨by unfold sgn; split<;>omega,rfl,?_⟩
 rw [decide_eq_decide]
 unfold sgn
 by_cases h:z < 0
 ·have hkp:0 < k:=by
   rcases Nat.eq_zero_or_pos k with h0|h0
   ·rw [h0,Nat.mul_zero] at hk; omega
   ·exact h0
  simp [h]; omega
 ·simp [h]
attribute [go_sem] bigD
theorem nlpos {n:Nat}:(0:Int) < (nl n:Nat) ↔ 0 < n:=by
 by_cases h:n=0
 ·subst h; rw [nl_zero]; simp
 ·have:=(nl_le n h).1; omega
theorem sgn_mul (x y:Int):sgn (!(decide (x < 0) == decide (y < 0))) (x.natAbs * y.natAbs)=x * y:=by
 unfold sgn
 rw [Int.natCast_mul]
 by_cases hx:x < 0<;>by_cases hy:y < 0<;>simp only [hx,hy,decide_true,decide_false,beq_self_eq_true,Bool.not_true,Bool.false_eq_true,if_false,Bool.not_false,if_true,beq_iff_eq,reduceCtorEq]
 ·rw [show (x.natAbs:Int)=-x by omega,show (y.natAbs:Int)=-y by omega,Int.neg_mul_neg]
 ·have e:(!(true == false))=true:=rfl
  rw [e,if_pos rfl,show (x.natAbs:Int)=-x by omega,show (y.natAbs:Int)=y by omega,Int.neg_mul,Int.neg_neg]
 ·have e:(!(false == true))=true:=rfl
  rw [e,if_pos rfl,show (x.natAbs:Int)=x by omega,show (y.natAbs:Int)=-y by omega,Int.mul_neg,Int.neg_neg]
 ·rw [show (x.natAbs:Int)=x by omega,show (y.natAbs:Int)=y by omega]
theorem cmpZ_nn {x y:Int} (hx:x < 0) (hy:y < 0):cmpN y.natAbs x.natAbs=cmpZ x y:=by
 unfold cmpN cmpZ
 by_cases h1:x < y
 ·rw [if_pos (by omega),if_pos h1]
 ·by_cases h2:y < x
  ·rw [if_neg (by omega),if_pos (by omega),if_neg h1,if_pos h2]
  ·rw [if_neg (by omega),if_neg (by omega),if_neg h1,if_neg h2]
theorem cmpZ_pp {x y:Int} (hx:¬ x < 0) (hy:¬ y < 0):cmpN x.natAbs y.natAbs=cmpZ x y:=by
 unfold cmpN cmpZ
 by_cases h1:x < y
 ·rw [if_pos (by omega),if_pos h1]
 ·by_cases h2:y < x
  ·rw [if_neg (by omega),if_pos (by omega),if_neg h1,if_pos h2]
  ·rw [if_neg (by omega),if_neg (by omega),if_neg h1,if_neg h2]
theorem cmpZ_np {x y:Int} (hx:x < 0) (hy:¬ y < 0):cmpZ x y=-1:=by unfold cmpZ; rw [if_pos (by omega)]
theorem cmpZ_pn {x y:Int} (hx:¬ x < 0) (hy:y < 0):cmpZ x y=1:=by unfold cmpZ; rw [if_neg (by omega),if_pos (by omega)]
theorem clone_fn (l:List Int) (hl:l.length<=16777216):Fn Tryz.prog 226 [⟨tInts,l⟩] true [⟨tInts,l⟩]:=by
 refine fe Tryz.func226 Tryz.ntmps226 Tryz.results226 fun hwf=>?_
 try simp (maxSteps:=9^9) only[go_sem]
 refine NilW.eq ?_
 try simp (maxSteps:=9^9) only[go_sem]
 refine CondW_nb (fun h=>?_) (fun h=>?_)
 ·try simp (maxSteps:=9^9) only[go_sem,h]
 ·try simp (maxSteps:=9^9) only[go_sem]
  repeat refine AI ?_
  try simp (maxSteps:=9^9) only[go_sem]
  omega
theorem bigMake_fn (s:Bool) (n:Nat):Fn Tryz.prog 221 [⟨.bool,s⟩,⟨tInts,natL n⟩] false [⟨tBig,bigD (sgn s n)⟩]:=by
 rw [bigD_sgn]
 cases s
 ·refine fe Tryz.func221 Tryz.ntmps221 Tryz.results221 fun hwf=>?_
  try simp (maxSteps:=9^9) only[go_sem]
 ·refine fe Tryz.func221 Tryz.ntmps221 Tryz.results221 fun hwf=>?_
  try simp (maxSteps:=9^9) only[go_sem]
  simp only [nlpos]
theorem bigMake_to {s:Bool} {n:Nat} {z:Int} (h:sgn s n=z):Fn Tryz.prog 221 [⟨.bool,s⟩,⟨tInts,natL n⟩] false [⟨tBig,bigD z⟩]:=h ▸ bigMake_fn s n
theorem bigNeg_fn (z:Int):Fn Tryz.prog 191 [⟨tBig,bigD z⟩] false [⟨tBig,bigD (-z)⟩]:=by
 refine fe Tryz.func191 Tryz.ntmps191 Tryz.results191 fun hwf=>?_
 try simp (maxSteps:=9^9) only[go_sem]
 repeat refine AI ?_
 refine cw (bigMake_to (s:=!decide (z < 0)) (n:=z.natAbs) (z:=-z) (by unfold sgn; by_cases h:z < 0<;>simp [h]<;>omega)) ?_
 try simp (maxSteps:=9^9) only[go_sem]
theorem bigAdd_fn (x y:Int) (hx:nl x.natAbs<=10000) (hy:nl y.natAbs<=10000):Fn Tryz.prog 187 [⟨tBig,bigD x⟩,⟨tBig,bigD y⟩] false [⟨tBig,bigD (x+y)⟩]:=by
 refine fe Tryz.func187 Tryz.ntmps187 Tryz.results187 fun hwf=>?_
 try simp (maxSteps:=9^9) only[go_sem]
 refine CondW_b (fun h=>?_) (fun h=>?_)
 ·have hs:decide (x < 0)=decide (y < 0):=by simpa using h
  try simp (maxSteps:=9^9) only[go_sem]
  repeat refine AI ?_
  refine cw (natAdd_fn x.natAbs y.natAbs (by omega) (by omega)) ?_
  try simp (maxSteps:=9^9) only[go_sem]
  repeat refine AI ?_
  refine cw (bigMake_to (s:=decide (x < 0)) (n:=x.natAbs+y.natAbs) (z:=x+y) (by unfold sgn; by_cases h:x < 0<;>by_cases h2:y < 0<;>simp [h,h2] at hs ⊢<;>omega)) ?_
  try simp (maxSteps:=9^9) only[go_sem]
  kernel_rfl
 ·have hs:decide (x < 0) ≠ decide (y < 0):=by simpa using h
  try simp (maxSteps:=9^9) only[go_sem]
  repeat refine AI ?_
  refine cw (natCmp_fn (natL x.natAbs) (natL y.natAbs)) ?_
  try simp (maxSteps:=9^9) only[go_sem]
  refine CondW_dec (fun hc=>?_) (fun hc=>?_)
  ·rw [cmpN_ge] at hc
   try simp (maxSteps:=9^9) only[go_sem]
   repeat refine AI ?_
   refine cw (natSub_fn x.natAbs y.natAbs hc (by omega)) ?_
   try simp (maxSteps:=9^9) only[go_sem]
   repeat refine AI ?_
   refine cw (bigMake_to (s:=decide (x < 0)) (n:=x.natAbs - y.natAbs) (z:=x+y) (by unfold sgn; by_cases h:x < 0<;>by_cases h2:y < 0<;>simp [h,h2] at hs ⊢<;>omega)) ?_
   try simp (maxSteps:=9^9) only[go_sem]
   kernel_rfl
  ·rw [cmpN_ge] at hc
   try simp (maxSteps:=9^9) only[go_sem]
   repeat refine AI ?_
   refine cw (natSub_fn y.natAbs x.natAbs (by omega) (by omega)) ?_
   try simp (maxSteps:=9^9) only[go_sem]
   repeat refine AI ?_
   refine cw (bigMake_to (s:=decide (y < 0)) (n:=y.natAbs - x.natAbs) (z:=x+y) (by unfold sgn; by_cases h:x < 0<;>by_cases h2:y < 0<;>simp [h,h2] at hs ⊢<;>omega)) ?_
   try simp (maxSteps:=9^9) only[go_sem]
   kernel_rfl
theorem bigMul_fn (x y:Int) (hx:nl x.natAbs<=10000) (hy:nl y.natAbs<=10000):Fn Tryz.prog 188 [⟨tBig,bigD x⟩,⟨tBig,bigD y⟩] false [⟨tBig,bigD (x * y)⟩]:=by
 refine fe Tryz.func188 Tryz.ntmps188 Tryz.results188 fun hwf=>?_
 try simp (maxSteps:=9^9) only[go_sem]
 repeat refine AI ?_
 refine cw (natMul_fn x.natAbs y.natAbs (by omega) (by omega)) ?_
 try simp (maxSteps:=9^9) only[go_sem]
 repeat refine AI ?_
 refine cw (bigMake_to (s:=!(decide (x < 0) == decide (y < 0))) (n:=x.natAbs * y.natAbs) (z:=x * y) (sgn_mul x y)) ?_
 try simp (maxSteps:=9^9) only[go_sem]
 kernel_rfl
theorem bigCmp_fn (x y:Int):Fn Tryz.prog 216 [⟨tBig,bigD x⟩,⟨tBig,bigD y⟩] false [⟨.int,cmpZ x y⟩]:=by
 by_cases hx:x < 0<;>by_cases hy:y < 0
 ·refine fe Tryz.func216 Tryz.ntmps216 Tryz.results216 fun hwf=>?_
  try simp (maxSteps:=9^9) only[go_sem,hx,hy]
  repeat refine AI ?_
  refine cw (natCmp_fn (natL y.natAbs) (natL x.natAbs)) ?_
  try simp (maxSteps:=9^9) only[go_sem]
  exact cmpZ_nn hx hy
 ·refine fe Tryz.func216 Tryz.ntmps216 Tryz.results216 fun hwf=>?_
  try simp (maxSteps:=9^9) only[go_sem,hx,hy]
  exact (cmpZ_np hx hy).symm
 ·refine fe Tryz.func216 Tryz.ntmps216 Tryz.results216 fun hwf=>?_
  try simp (maxSteps:=9^9) only[go_sem,hx,hy]
  exact (cmpZ_pn hx hy).symm
 ·refine fe Tryz.func216 Tryz.ntmps216 Tryz.results216 fun hwf=>?_
  try simp (maxSteps:=9^9) only[go_sem,hx,hy]
  repeat refine AI ?_
  refine cw (natCmp_fn (natL x.natAbs) (natL y.natAbs)) ?_
  try simp (maxSteps:=9^9) only[go_sem]
  exact cmpZ_pp hx hy
theorem ownBig_fn (z:Int) (hz:nl z.natAbs<=60):Fn Tryz.prog 225 [⟨tBig,bigD z⟩] true [⟨tBig,bigD z⟩]:=by
 have hA:¬ (60:Int) < nl z.natAbs:=by omega
 refine fe Tryz.func225 Tryz.ntmps225 Tryz.results225 fun hwf=>?_
 try simp (maxSteps:=9^9) only[go_sem,hA]
 repeat refine AI ?_
 refine cw (clone_fn (natL z.natAbs) (by show nl z.natAbs<=16777216; omega)) ?_
 try simp (maxSteps:=9^9) only[go_sem]
 kernel_rfl
theorem okB_eq (s:Bool) (l:List Int):okB (s,l)=(okN l && !(s && decide ((l.length:Int)=0))):=by
 by_cases h1:okNP l
 ·by_cases h2:l.length=0
  ·cases s
   ·rw [okB,bdec_t ⟨h1,fun h=>by cases h.1⟩,okN,bdec_t h1]; rfl
   ·rw [okB,bdec_f fun h=>h.2 ⟨rfl,h2⟩,h2]; simp
  ·rw [okB,bdec_t ⟨h1,fun h=>h2 h.2⟩,okN,bdec_t h1,decide_eq_false (by omega)]; simp
 ·rw [okB,bdec_f fun h=>h1 h.1,okN,bdec_f h1]; rfl
theorem implBigIntOk_fn (x:DB):Fn Tryz.prog 152 [⟨tBig,x⟩] false [⟨.bool,okB x⟩]:=by
 obtain ⟨s,l⟩:=x
 rw [okB_eq]
 cases hN:okN l<;>cases s
 all_goals
  refine fe Tryz.func152 Tryz.ntmps152 Tryz.results152 fun hwf=>?_
  try simp (maxSteps:=9^9) only[go_sem]
  repeat refine AI ?_
  refine cw (implNatOk_fn l) ?_
  try simp (maxSteps:=9^9) only[go_sem]
  try simp (maxSteps:=9^9) only[go_sem,hN]
theorem specBigIntOk_fn (x:DB):Fn Tryz.prog 198 [⟨tBig,x⟩] false [⟨.bool,okB x⟩]:=by
 obtain ⟨s,l⟩:=x
 rw [okB_eq]
 by_cases hl:(l.length:Int)=0
 ·have hl2:¬ 0 < (l.length:Int):=by omega
  cases hN:okN l<;>cases s
  all_goals
   refine fe Tryz.func198 Tryz.ntmps198 Tryz.results198 fun hwf=>?_
   try simp (maxSteps:=9^9) only[go_sem]
   repeat refine AI ?_
   refine cw (specNatOk_fn l) ?_
   try simp (maxSteps:=9^9) only[go_sem]
   try simp (maxSteps:=9^9) only[go_sem,hN,hl,hl2]
 ·have hl2:0 < (l.length:Int):=by omega
  cases hN:okN l<;>cases s
  all_goals
   refine fe Tryz.func198 Tryz.ntmps198 Tryz.results198 fun hwf=>?_
   try simp (maxSteps:=9^9) only[go_sem]
   repeat refine AI ?_
   refine cw (specNatOk_fn l) ?_
   try simp (maxSteps:=9^9) only[go_sem]
   try simp (maxSteps:=9^9) only[go_sem,hN,hl,hl2]
theorem l02Cap_fn (n:Nat) (hn:nl n<=60):Fn Tryz.prog 172 [⟨tInts,natL n⟩] false [⟨tInts,natL n⟩]:=by
 have hA:¬ (60:Int) < nl n:=by omega
 have ht:=l02Trim_fn (natL n)
 rw [trimL_natL] at ht
 refine fe Tryz.func172 Tryz.ntmps172 Tryz.results172 fun hwf=>?_
 try simp (maxSteps:=9^9) only[go_sem]
 repeat refine AI ?_
 refine cw ht ?_
 try simp (maxSteps:=9^9) only[go_sem]
 try simp (maxSteps:=9^9) only[go_sem,hA]
theorem l03Make_fn (s:Bool) (n:Nat) (hn:nl n<=60):Fn Tryz.prog 137 [⟨.bool,s⟩,⟨tInts,natL n⟩] true [⟨tBig,bigD (sgn s n)⟩]:=by
 rw [bigD_sgn]
 cases s
 ·refine fe Tryz.func137 Tryz.ntmps137 Tryz.results137 fun hwf=>?_
  try simp (maxSteps:=9^9) only[go_sem]
  repeat refine AI ?_
  refine cw (l02Cap_fn n hn) ?_
  try simp (maxSteps:=9^9) only[go_sem]
  repeat refine AI ?_
  omega
 ·refine fe Tryz.func137 Tryz.ntmps137 Tryz.results137 fun hwf=>?_
  try simp (maxSteps:=9^9) only[go_sem]
  repeat refine AI ?_
  refine cw (l02Cap_fn n hn) ?_
  try simp (maxSteps:=9^9) only[go_sem]
  repeat refine AI ?_
  simp only [nlpos]
theorem l03Make_to {s:Bool} {n:Nat} {z:Int} (h:sgn s n=z) (hn:nl n<=60):Fn Tryz.prog 137 [⟨.bool,s⟩,⟨tInts,natL n⟩] true [⟨tBig,bigD z⟩]:=h ▸ l03Make_fn s n hn
theorem l03Add_fn (x y:Int) (hx:nl x.natAbs<=59) (hy:nl y.natAbs<=59):Fn Tryz.prog 236 [⟨tBig,bigD x⟩,⟨tBig,bigD y⟩] true [⟨tBig,bigD (x+y)⟩]:=by
 have hl:=nl_add x.natAbs y.natAbs
 have hl1:=nl_mono (Nat.sub_le x.natAbs y.natAbs)
 have hl2:=nl_mono (Nat.sub_le y.natAbs x.natAbs)
 refine fe Tryz.func236 Tryz.ntmps236 Tryz.results236 fun hwf=>?_
 try simp (maxSteps:=9^9) only[go_sem]
 refine CondW_b (fun h=>?_) (fun h=>?_)
 ·have hs:decide (x < 0)=decide (y < 0):=by simpa using h
  try simp (maxSteps:=9^9) only[go_sem]
  repeat refine AI ?_
  refine cw (l02Add_fn x.natAbs y.natAbs (by omega) (by omega)) ?_
  try simp (maxSteps:=9^9) only[go_sem]
  repeat refine AI ?_
  refine cw (l03Make_to (s:=decide (x < 0)) (n:=x.natAbs+y.natAbs) (z:=x+y) (by unfold sgn; by_cases h:x < 0<;>by_cases h2:y < 0<;>simp [h,h2] at hs ⊢<;>omega) (by omega)) ?_
  try simp (maxSteps:=9^9) only[go_sem]
  kernel_rfl
 ·have hs:decide (x < 0) ≠ decide (y < 0):=by simpa using h
  try simp (maxSteps:=9^9) only[go_sem]
  repeat refine AI ?_
  refine cw (l02Cmp_fn (natL x.natAbs) (natL y.natAbs)) ?_
  try simp (maxSteps:=9^9) only[go_sem]
  refine CondW_dec (fun hc=>?_) (fun hc=>?_)
  ·rw [cmpN_ge] at hc
   try simp (maxSteps:=9^9) only[go_sem]
   repeat refine AI ?_
   refine cw (l02Sub_fn x.natAbs y.natAbs hc (by omega)) ?_
   try simp (maxSteps:=9^9) only[go_sem]
   repeat refine AI ?_
   refine cw (l03Make_to (s:=decide (x < 0)) (n:=x.natAbs - y.natAbs) (z:=x+y) (by unfold sgn; by_cases h:x < 0<;>by_cases h2:y < 0<;>simp [h,h2] at hs ⊢<;>omega) (by omega)) ?_
   try simp (maxSteps:=9^9) only[go_sem]
   kernel_rfl
  ·rw [cmpN_ge] at hc
   try simp (maxSteps:=9^9) only[go_sem]
   repeat refine AI ?_
   refine cw (l02Sub_fn y.natAbs x.natAbs (by omega) (by omega)) ?_
   try simp (maxSteps:=9^9) only[go_sem]
   repeat refine AI ?_
   refine cw (l03Make_to (s:=decide (y < 0)) (n:=y.natAbs - x.natAbs) (z:=x+y) (by unfold sgn; by_cases h:x < 0<;>by_cases h2:y < 0<;>simp [h,h2] at hs ⊢<;>omega) (by omega)) ?_
   try simp (maxSteps:=9^9) only[go_sem]
   kernel_rfl
theorem l03Cmp_fn (x y:Int):Fn Tryz.prog 269 [⟨tBig,bigD x⟩,⟨tBig,bigD y⟩] false [⟨.int,cmpZ x y⟩]:=by
 by_cases hx:x < 0<;>by_cases hy:y < 0
 ·refine fe Tryz.func269 Tryz.ntmps269 Tryz.results269 fun hwf=>?_
  try simp (maxSteps:=9^9) only[go_sem,hx,hy]
  repeat refine AI ?_
  refine cw (l02Cmp_fn (natL y.natAbs) (natL x.natAbs)) ?_
  try simp (maxSteps:=9^9) only[go_sem]
  exact cmpZ_nn hx hy
 ·refine fe Tryz.func269 Tryz.ntmps269 Tryz.results269 fun hwf=>?_
  try simp (maxSteps:=9^9) only[go_sem,hx,hy]
  exact (cmpZ_np hx hy).symm
 ·refine fe Tryz.func269 Tryz.ntmps269 Tryz.results269 fun hwf=>?_
  try simp (maxSteps:=9^9) only[go_sem,hx,hy]
  exact (cmpZ_pn hx hy).symm
 ·refine fe Tryz.func269 Tryz.ntmps269 Tryz.results269 fun hwf=>?_
  try simp (maxSteps:=9^9) only[go_sem,hx,hy]
  repeat refine AI ?_
  refine cw (l02Cmp_fn (natL x.natAbs) (natL y.natAbs)) ?_
  try simp (maxSteps:=9^9) only[go_sem]
  exact cmpZ_pp hx hy
@[go_sem] theorem oD_s (q:Rat):oD (some q)=ratD q:=(rfl)
@[go_sem] theorem oD_n:oD none=rZ:=(rfl)
attribute [go_sem] ratD rZ bZ
theorem one_iff {n:Nat}:((nl n:Int)=1/\(dg n 0:Int)=1) ↔ n=1:=by
 constructor
 ·rintro ⟨h1,h2⟩
  have:=dg_one (b:=n) (by omega)
  omega
 ·rintro rfl
  have h:nl 1=1:=by rw [nl_pos (by decide),show 1 / 1000000000=0 from rfl,nl_zero]
  exact ⟨by omega,by have:=dg_one h; omega⟩
theorem isOne_fn (n:Nat):Fn Tryz.prog 154 [⟨tInts,natL n⟩] false [⟨.bool,decide (n=1)⟩]:=by
 by_cases h1:(nl n:Int)=1
 ·have hiff:=@one_iff n
  refine fe Tryz.func154 Tryz.ntmps154 Tryz.results154 fun hwf=>?_
  try simp (maxSteps:=9^9) only[go_sem,h1]
  repeat refine AI ?_
  rw [decide_eq_decide]; omega
 ·have hn:n ≠ 1:=fun h=>h1 (one_iff.2 h).1
  refine fe Tryz.func154 Tryz.ntmps154 Tryz.results154 fun hwf=>?_
  try simp (maxSteps:=9^9) only[go_sem,h1]
  simp [hn]
theorem l04One_fn (n:Nat):Fn Tryz.prog 200 [⟨tInts,natL n⟩] false [⟨.bool,decide (n=1)⟩]:=by
 by_cases h1:(nl n:Int)=1
 ·have hiff:=@one_iff n
  refine fe Tryz.func200 Tryz.ntmps200 Tryz.results200 fun hwf=>?_
  try simp (maxSteps:=9^9) only[go_sem,h1]
  repeat refine AI ?_
  rw [decide_eq_decide]; omega
 ·have hn:n ≠ 1:=fun h=>h1 (one_iff.2 h).1
  refine fe Tryz.func200 Tryz.ntmps200 Tryz.results200 fun hwf=>?_
  try simp (maxSteps:=9^9) only[go_sem,h1]
  simp [hn]
theorem bool_ext' {a b:Bool} (h:a=true ↔ b=true):a=b:=by cases a<;>cases b<;>simp_all
theorem okB_iff {x:DB}:okB x=true ↔ okBP x:=by
 constructor
 ·intro h; exact Classical.byContradiction fun hn=>by rw [okB,bdec_f hn] at h; cases h
 ·exact fun h=>bdec_t h
theorem okN_iff {l:List Int}:okN l=true ↔ okNP l:=by
 constructor
 ·intro h; exact Classical.byContradiction fun hn=>by rw [okN,bdec_f hn] at h; cases h
 ·exact fun h=>bdec_t h
theorem okR_eq (x:DB) (d:List Int):okR (x,d)=(okB x && okN d && !decide ((d.length:Int)=0) && !decide (24 < (x.2.length:Int)) && !decide (24 < (d.length:Int)) && decide (Nat.gcd (val x.2) (val d)=1)):=by
 apply bool_ext'
 rw [okR_iff]
 simp only [Bool.and_eq_true,okB_iff,okN_iff,Bool.not_eq_true',decide_eq_false_iff_not,decide_eq_true_eq,and_assoc]
 constructor
 ·rintro ⟨h1,h2,h3,h4,h5,h6⟩
  refine ⟨h1,h2,fun h=>h3 (List.eq_nil_of_length_eq_zero (by omega)),by omega,by omega,h6⟩
 ·rintro ⟨h1,h2,h3,h4,h5,h6⟩
  refine ⟨h1,h2,fun h=>h3 (by rw [h]; rfl),by omega,by omega,h6⟩
theorem implRatOk_fn (r:DR):Fn Tryz.prog 112 [⟨tRat,r⟩] false [⟨.bool,okR r⟩]:=by
 obtain ⟨x,d⟩:=r
 rw [okR_eq]
 cases h1:okB x
 ·refine fe Tryz.func112 Tryz.ntmps112 Tryz.results112 fun hwf=>?_
  try simp (maxSteps:=9^9) only[go_sem]
  repeat refine AI ?_
  refine cw (implBigIntOk_fn x) ?_
  try simp (maxSteps:=9^9) only[go_sem]
  try simp (maxSteps:=9^9) only[go_sem,h1]
 cases h2:okN d
 ·refine fe Tryz.func112 Tryz.ntmps112 Tryz.results112 fun hwf=>?_
  try simp (maxSteps:=9^9) only[go_sem]
  repeat refine AI ?_
  refine cw (implBigIntOk_fn x) ?_
  try simp (maxSteps:=9^9) only[go_sem]
  try simp (maxSteps:=9^9) only[go_sem,h1]
  repeat refine AI ?_
  refine cw (implNatOk_fn d) ?_
  try simp (maxSteps:=9^9) only[go_sem]
  try simp (maxSteps:=9^9) only[go_sem,h2]
 by_cases h3:(d.length:Int)=0
 ·refine fe Tryz.func112 Tryz.ntmps112 Tryz.results112 fun hwf=>?_
  try simp (maxSteps:=9^9) only[go_sem]
  repeat refine AI ?_
  refine cw (implBigIntOk_fn x) ?_
  try simp (maxSteps:=9^9) only[go_sem]
  try simp (maxSteps:=9^9) only[go_sem,h1]
  repeat refine AI ?_
  refine cw (implNatOk_fn d) ?_
  try simp (maxSteps:=9^9) only[go_sem]
  try simp (maxSteps:=9^9) only[go_sem,h2,h3]
 by_cases h4:24 < (x.2.length:Int)
 ·refine fe Tryz.func112 Tryz.ntmps112 Tryz.results112 fun hwf=>?_
  try simp (maxSteps:=9^9) only[go_sem]
  repeat refine AI ?_
  refine cw (implBigIntOk_fn x) ?_
  try simp (maxSteps:=9^9) only[go_sem]
  try simp (maxSteps:=9^9) only[go_sem,h1]
  repeat refine AI ?_
  refine cw (implNatOk_fn d) ?_
  try simp (maxSteps:=9^9) only[go_sem]
  try simp (maxSteps:=9^9) only[go_sem,h2,h3,h4]
 by_cases h5:24 < (d.length:Int)
 ·refine fe Tryz.func112 Tryz.ntmps112 Tryz.results112 fun hwf=>?_
  try simp (maxSteps:=9^9) only[go_sem]
  repeat refine AI ?_
  refine cw (implBigIntOk_fn x) ?_
  try simp (maxSteps:=9^9) only[go_sem]
  try simp (maxSteps:=9^9) only[go_sem,h1]
  repeat refine AI ?_
  refine cw (implNatOk_fn d) ?_
  try simp (maxSteps:=9^9) only[go_sem]
  try simp (maxSteps:=9^9) only[go_sem,h2,h3,h4,h5]
 obtain ⟨z,rfl,_⟩:=okBP_iff.1 (okB_iff.1 h1)
 obtain ⟨n,rfl,_⟩:=okNP_iff.1 (okN_iff.1 h2)
 have h1':okB (decide (z < 0),natL z.natAbs)=true:=h1
 have h3':¬ (nl n:Int)=0:=h3
 have h4':¬ 24 < (nl z.natAbs:Int):=h4
 have h5':¬ 24 < (nl n:Int):=h5
 have hv:val (bigD z).2=z.natAbs:=val_natL _
 rw [hv,val_natL]
 by_cases hn:n=1
 ·refine fe Tryz.func112 Tryz.ntmps112 Tryz.results112 fun hwf=>?_
  try simp (maxSteps:=9^9) only[go_sem]
  repeat refine AI ?_
  refine cw (implBigIntOk_fn (bigD z)) ?_
  try simp (maxSteps:=9^9) only[go_sem]
  try simp (maxSteps:=9^9) only[go_sem,h1']
  repeat refine AI ?_
  refine cw (implNatOk_fn (natL n)) ?_
  try simp (maxSteps:=9^9) only[go_sem]
  try simp (maxSteps:=9^9) only[go_sem,h2,h3',h4',h5']
  repeat refine AI ?_
  refine cw (isOne_fn n) ?_
  try simp (maxSteps:=9^9) only[go_sem]
  try simp (maxSteps:=9^9) only[go_sem,hn]
  simp
 ·refine fe Tryz.func112 Tryz.ntmps112 Tryz.results112 fun hwf=>?_
  try simp (maxSteps:=9^9) only[go_sem]
  repeat refine AI ?_
  refine cw (implBigIntOk_fn (bigD z)) ?_
  try simp (maxSteps:=9^9) only[go_sem]
  try simp (maxSteps:=9^9) only[go_sem,h1']
  repeat refine AI ?_
  refine cw (implNatOk_fn (natL n)) ?_
  try simp (maxSteps:=9^9) only[go_sem]
  try simp (maxSteps:=9^9) only[go_sem,h2,h3',h4',h5']
  repeat refine AI ?_
  refine cw (isOne_fn n) ?_
  try simp (maxSteps:=9^9) only[go_sem]
  try simp (maxSteps:=9^9) only[go_sem,hn]
  repeat refine AI ?_
  refine cw (natGcd_fn z.natAbs n (by omega) (by omega)) ?_
  try simp (maxSteps:=9^9) only[go_sem]
  repeat refine AI ?_
  refine cw (isOne_fn (Nat.gcd z.natAbs n)) ?_
  try simp (maxSteps:=9^9) only[go_sem]
theorem specRatOk_fn (r:DR):Fn Tryz.prog 158 [⟨tRat,r⟩] false [⟨.bool,okR r⟩]:=by
 obtain ⟨x,d⟩:=r
 rw [okR_eq]
 cases h1:okB x
 ·refine fe Tryz.func158 Tryz.ntmps158 Tryz.results158 fun hwf=>?_
  try simp (maxSteps:=9^9) only[go_sem]
  repeat refine AI ?_
  refine cw (specBigIntOk_fn x) ?_
  try simp (maxSteps:=9^9) only[go_sem]
  try simp (maxSteps:=9^9) only[go_sem,h1]
 cases h2:okN d
 ·refine fe Tryz.func158 Tryz.ntmps158 Tryz.results158 fun hwf=>?_
  try simp (maxSteps:=9^9) only[go_sem]
  repeat refine AI ?_
  refine cw (specBigIntOk_fn x) ?_
  try simp (maxSteps:=9^9) only[go_sem]
  try simp (maxSteps:=9^9) only[go_sem,h1]
  repeat refine AI ?_
  refine cw (specNatOk_fn d) ?_
  try simp (maxSteps:=9^9) only[go_sem]
  try simp (maxSteps:=9^9) only[go_sem,h2]
 by_cases h3:(d.length:Int)=0
 ·refine fe Tryz.func158 Tryz.ntmps158 Tryz.results158 fun hwf=>?_
  try simp (maxSteps:=9^9) only[go_sem]
  repeat refine AI ?_
  refine cw (specBigIntOk_fn x) ?_
  try simp (maxSteps:=9^9) only[go_sem]
  try simp (maxSteps:=9^9) only[go_sem,h1]
  repeat refine AI ?_
  refine cw (specNatOk_fn d) ?_
  try simp (maxSteps:=9^9) only[go_sem]
  try simp (maxSteps:=9^9) only[go_sem,h2,h3]
 by_cases h5:24 < (d.length:Int)
 ·refine fe Tryz.func158 Tryz.ntmps158 Tryz.results158 fun hwf=>?_
  try simp (maxSteps:=9^9) only[go_sem]
  repeat refine AI ?_
  refine cw (specBigIntOk_fn x) ?_
  try simp (maxSteps:=9^9) only[go_sem]
  try simp (maxSteps:=9^9) only[go_sem,h1]
  repeat refine AI ?_
  refine cw (specNatOk_fn d) ?_
  try simp (maxSteps:=9^9) only[go_sem]
  try simp (maxSteps:=9^9) only[go_sem,h2,h3,h5]
 by_cases h4:24 < (x.2.length:Int)
 ·refine fe Tryz.func158 Tryz.ntmps158 Tryz.results158 fun hwf=>?_
  try simp (maxSteps:=9^9) only[go_sem]
  repeat refine AI ?_
  refine cw (specBigIntOk_fn x) ?_
  try simp (maxSteps:=9^9) only[go_sem]
  try simp (maxSteps:=9^9) only[go_sem,h1]
  repeat refine AI ?_
  refine cw (specNatOk_fn d) ?_
  try simp (maxSteps:=9^9) only[go_sem]
  try simp (maxSteps:=9^9) only[go_sem,h2,h3,h5,h4]
 obtain ⟨z,rfl,_⟩:=okBP_iff.1 (okB_iff.1 h1)
 obtain ⟨n,rfl,_⟩:=okNP_iff.1 (okN_iff.1 h2)
 have h1':okB (decide (z < 0),natL z.natAbs)=true:=h1
 have h3':¬ (nl n:Int)=0:=h3
 have h4':¬ 24 < (nl z.natAbs:Int):=h4
 have h5':¬ 24 < (nl n:Int):=h5
 have hv:val (bigD z).2=z.natAbs:=val_natL _
 rw [hv,val_natL]
 refine fe Tryz.func158 Tryz.ntmps158 Tryz.results158 fun hwf=>?_
 try simp (maxSteps:=9^9) only[go_sem]
 repeat refine AI ?_
 refine cw (specBigIntOk_fn (bigD z)) ?_
 try simp (maxSteps:=9^9) only[go_sem]
 try simp (maxSteps:=9^9) only[go_sem,h1']
 repeat refine AI ?_
 refine cw (specNatOk_fn (natL n)) ?_
 try simp (maxSteps:=9^9) only[go_sem]
 try simp (maxSteps:=9^9) only[go_sem,h2,h3',h4',h5']
 repeat refine AI ?_
 refine cw (l02Gcd_fn z.natAbs n (by omega) (by omega)) ?_
 try simp (maxSteps:=9^9) only[go_sem]
 repeat refine AI ?_
 refine cw (l04One_fn (Nat.gcd z.natAbs n)) ?_
 try simp (maxSteps:=9^9) only[go_sem]
theorem isGood_fn (x:Option Rat):Fn Tryz.prog 174 [⟨tRat,oD x⟩] false [⟨.bool,x.isSome⟩]:=by
 cases x with
 | none =>
  refine fe Tryz.func174 Tryz.ntmps174 Tryz.results174 fun hwf=>?_
  try simp (maxSteps:=9^9) only[go_sem]
  rfl
 | some q =>
  have h:(0:Int) < nl q.den:=nlpos.2 (den_pos' q)
  refine fe Tryz.func174 Tryz.ntmps174 Tryz.results174 fun hwf=>?_
  try simp (maxSteps:=9^9) only[go_sem,h]
theorem capR_data {q:Rat} (h:small q):oD (capR q)=((decide (q.num < 0),natL q.num.natAbs),natL q.den):=by rw [capR_s h]; rfl
theorem capR_none {q:Rat} (h:¬ small q):oD (capR q)=((false,[]),[]):=by rw [capR_n h]; rfl
theorem bigMulN_fn (x:Int) (n:Nat) (hx:nl x.natAbs<=10000) (hy:nl n<=10000):Fn Tryz.prog 188 [⟨tBig,bigD x⟩,⟨tBig,(false,natL n)⟩] false [⟨tBig,bigD (x * n)⟩]:=by
 have:=bigMul_fn x n hx (by simpa using hy)
 rw [bigD_nat] at this
 exact this
theorem ratMake_end (z:Int) (n:Nat) (hn:n ≠ 0) (hz:nl z.natAbs<=10000) (hnl:nl n<=10000):Fn Tryz.prog 189 [⟨tBig,bigD z⟩,⟨tInts,natL n⟩] true [⟨tRat,oD (capR (_root_.mkRat z n))⟩]:=by
 obtain ⟨m1,m2,m3⟩:=mk_abs (z:=z) hn
 generalize hq:_root_.mkRat z n=q at *
 have hg0:0 < Nat.gcd z.natAbs n:=Nat.gcd_pos_of_pos_right _ (Nat.pos_of_ne_zero hn)
 have hl1:=nl_mono (Nat.div_le_self z.natAbs (Nat.gcd z.natAbs n))
 have hl2:=nl_mono (Nat.div_le_self n (Nat.gcd z.natAbs n))
 have hl3:=nl_mono (Nat.gcd_le_right z.natAbs (Nat.pos_of_ne_zero hn))
 rw [<-m1] at hl1
 rw [<-m2] at hl2
 have hpath:(decide (n=1)=true/\z.natAbs=q.num.natAbs/\n=q.den)\/(decide (n=1)=false/\decide (Nat.gcd z.natAbs n=1)=true/\z.natAbs=q.num.natAbs/\n=q.den)\/(decide (n=1)=false/\decide (Nat.gcd z.natAbs n=1)=false):=by
  by_cases h1:n=1
  ·refine .inl ⟨decide_eq_true h1,?_,?_⟩
   ·rw [m1,h1,Nat.gcd_one_right,Nat.div_one]
   ·rw [m2,h1,Nat.gcd_one_right,Nat.div_one]
  ·by_cases h2:Nat.gcd z.natAbs n=1
   ·exact .inr (.inl ⟨decide_eq_false h1,decide_eq_true h2,by rw [m1,h2,Nat.div_one],by rw [m2,h2,Nat.div_one]⟩)
   ·exact .inr (.inr ⟨decide_eq_false h1,decide_eq_false h2⟩)
 have hcn:=clone_fn (natL q.den) (by show nl q.den<=16777216; omega)
 have hob:small q->Fn Tryz.prog 225 [⟨tBig,(decide (z < 0),natL q.num.natAbs)⟩] true [⟨tBig,(decide (z < 0),natL q.num.natAbs)⟩]:=fun hs=>by
  have:=ownBig_fn q.num (by have:=hs.1; omega)
  unfold bigD at this
  rw [m3] at this
  exact this
 have hend:small q\/(24:Int) < nl q.num.natAbs\/(¬ (24:Int) < nl q.num.natAbs/\(24:Int) < nl q.den):=by unfold small; omega
 rcases hpath with ⟨hd,e1,e2⟩|⟨hd,hd2,e1,e2⟩|⟨hd,hd2⟩
 ·rcases hend with hs|hA|⟨hA,hB⟩
  ·rw [capR_data hs,m3]
   have hA:¬ (24:Int) < nl q.num.natAbs:=by have:=hs.1; omega
   have hB:¬ (24:Int) < nl q.den:=by have:=hs.2; omega
   have hob:=hob hs
   rw [<-e1] at hA hob; rw [<-e2] at hB hcn; rw [<-e1,<-e2]
   refine fe Tryz.func189 Tryz.ntmps189 Tryz.results189 fun hwf=>?_
   try simp (maxSteps:=9^9) only[go_sem]
   repeat refine AI ?_
   refine cw (isOne_fn n) ?_
   try simp (maxSteps:=9^9) only[go_sem]
   try simp (maxSteps:=9^9) only[go_sem,hd,hA,hB]
   repeat refine AI ?_
   refine cw hob ?_
   try simp (maxSteps:=9^9) only[go_sem]
   repeat refine AI ?_
   refine cw hcn ?_
   try simp (maxSteps:=9^9) only[go_sem]
  ·rw [capR_none (by unfold small; omega)]
   rw [<-e1] at hA
   refine fe Tryz.func189 Tryz.ntmps189 Tryz.results189 fun hwf=>?_
   try simp (maxSteps:=9^9) only[go_sem]
   repeat refine AI ?_
   refine cw (isOne_fn n) ?_
   try simp (maxSteps:=9^9) only[go_sem]
   try simp (maxSteps:=9^9) only[go_sem,hd,hA]
  ·rw [capR_none (by unfold small; omega)]
   rw [<-e1] at hA; rw [<-e2] at hB
   refine fe Tryz.func189 Tryz.ntmps189 Tryz.results189 fun hwf=>?_
   try simp (maxSteps:=9^9) only[go_sem]
   repeat refine AI ?_
   refine cw (isOne_fn n) ?_
   try simp (maxSteps:=9^9) only[go_sem]
   try simp (maxSteps:=9^9) only[go_sem,hd,hA,hB]
 ·rcases hend with hs|hA|⟨hA,hB⟩
  ·rw [capR_data hs,m3]
   have hA:¬ (24:Int) < nl q.num.natAbs:=by have:=hs.1; omega
   have hB:¬ (24:Int) < nl q.den:=by have:=hs.2; omega
   have hob:=hob hs
   rw [<-e1] at hA hob; rw [<-e2] at hB hcn; rw [<-e1,<-e2]
   refine fe Tryz.func189 Tryz.ntmps189 Tryz.results189 fun hwf=>?_
   try simp (maxSteps:=9^9) only[go_sem]
   repeat refine AI ?_
   refine cw (isOne_fn n) ?_
   try simp (maxSteps:=9^9) only[go_sem]
   try simp (maxSteps:=9^9) only[go_sem,hd]
   repeat refine AI ?_
   refine cw (natGcd_fn z.natAbs n (by omega) (by omega)) ?_
   try simp (maxSteps:=9^9) only[go_sem]
   repeat refine AI ?_
   refine cw (isOne_fn (Nat.gcd z.natAbs n)) ?_
   try simp (maxSteps:=9^9) only[go_sem]
   try simp (maxSteps:=9^9) only[go_sem,hd2,hA,hB]
   repeat refine AI ?_
   refine cw hob ?_
   try simp (maxSteps:=9^9) only[go_sem]
   repeat refine AI ?_
   refine cw hcn ?_
   try simp (maxSteps:=9^9) only[go_sem]
  ·rw [capR_none (by unfold small; omega)]
   rw [<-e1] at hA
   refine fe Tryz.func189 Tryz.ntmps189 Tryz.results189 fun hwf=>?_
   try simp (maxSteps:=9^9) only[go_sem]
   repeat refine AI ?_
   refine cw (isOne_fn n) ?_
   try simp (maxSteps:=9^9) only[go_sem]
   try simp (maxSteps:=9^9) only[go_sem,hd]
   repeat refine AI ?_
   refine cw (natGcd_fn z.natAbs n (by omega) (by omega)) ?_
   try simp (maxSteps:=9^9) only[go_sem]
   repeat refine AI ?_
   refine cw (isOne_fn (Nat.gcd z.natAbs n)) ?_
   try simp (maxSteps:=9^9) only[go_sem]
   try simp (maxSteps:=9^9) only[go_sem,hd2,hA]
  ·rw [capR_none (by unfold small; omega)]
   rw [<-e1] at hA; rw [<-e2] at hB
   refine fe Tryz.func189 Tryz.ntmps189 Tryz.results189 fun hwf=>?_
   try simp (maxSteps:=9^9) only[go_sem]
   repeat refine AI ?_
   refine cw (isOne_fn n) ?_
   try simp (maxSteps:=9^9) only[go_sem]
   try simp (maxSteps:=9^9) only[go_sem,hd]
   repeat refine AI ?_
   refine cw (natGcd_fn z.natAbs n (by omega) (by omega)) ?_
   try simp (maxSteps:=9^9) only[go_sem]
   repeat refine AI ?_
   refine cw (isOne_fn (Nat.gcd z.natAbs n)) ?_
   try simp (maxSteps:=9^9) only[go_sem]
   try simp (maxSteps:=9^9) only[go_sem,hd2,hA,hB]
 ·rcases hend with hs|hA|⟨hA,hB⟩
  ·rw [capR_data hs,m3]
   have hA:¬ (24:Int) < nl q.num.natAbs:=by have:=hs.1; omega
   have hB:¬ (24:Int) < nl q.den:=by have:=hs.2; omega
   have hob:=hob hs
   refine fe Tryz.func189 Tryz.ntmps189 Tryz.results189 fun hwf=>?_
   try simp (maxSteps:=9^9) only[go_sem]
   repeat refine AI ?_
   refine cw (isOne_fn n) ?_
   try simp (maxSteps:=9^9) only[go_sem]
   try simp (maxSteps:=9^9) only[go_sem,hd]
   repeat refine AI ?_
   refine cw (natGcd_fn z.natAbs n (by omega) (by omega)) ?_
   try simp (maxSteps:=9^9) only[go_sem]
   repeat refine AI ?_
   refine cw (isOne_fn (Nat.gcd z.natAbs n)) ?_
   try simp (maxSteps:=9^9) only[go_sem]
   try simp (maxSteps:=9^9) only[go_sem,hd2]
   have c1:=natDiv_fn z.natAbs (Nat.gcd z.natAbs n) hg0 (by omega) (by omega)
   rw [<-m1] at c1
   repeat refine AI ?_
   refine cw c1 ?_
   try simp (maxSteps:=9^9) only[go_sem]
   have c2:=natDiv_fn n (Nat.gcd z.natAbs n) hg0 (by omega) (by omega)
   rw [<-m2] at c2
   repeat refine AI ?_
   refine cw c2 ?_
   try simp (maxSteps:=9^9) only[go_sem]
   try simp (maxSteps:=9^9) only[go_sem,hA,hB]
   repeat refine AI ?_
   refine cw hob ?_
   try simp (maxSteps:=9^9) only[go_sem]
   repeat refine AI ?_
   refine cw hcn ?_
   try simp (maxSteps:=9^9) only[go_sem]
  ·rw [capR_none (by unfold small; omega)]
   refine fe Tryz.func189 Tryz.ntmps189 Tryz.results189 fun hwf=>?_
   try simp (maxSteps:=9^9) only[go_sem]
   repeat refine AI ?_
   refine cw (isOne_fn n) ?_
   try simp (maxSteps:=9^9) only[go_sem]
   try simp (maxSteps:=9^9) only[go_sem,hd]
   repeat refine AI ?_
   refine cw (natGcd_fn z.natAbs n (by omega) (by omega)) ?_
   try simp (maxSteps:=9^9) only[go_sem]
   repeat refine AI ?_
   refine cw (isOne_fn (Nat.gcd z.natAbs n)) ?_
   try simp (maxSteps:=9^9) only[go_sem]
   try simp (maxSteps:=9^9) only[go_sem,hd2]
   have c1:=natDiv_fn z.natAbs (Nat.gcd z.natAbs n) hg0 (by omega) (by omega)
   rw [<-m1] at c1
   repeat refine AI ?_
   refine cw c1 ?_
   try simp (maxSteps:=9^9) only[go_sem]
   have c2:=natDiv_fn n (Nat.gcd z.natAbs n) hg0 (by omega) (by omega)
   rw [<-m2] at c2
   repeat refine AI ?_
   refine cw c2 ?_
   try simp (maxSteps:=9^9) only[go_sem]
   try simp (maxSteps:=9^9) only[go_sem,hA]
  ·rw [capR_none (by unfold small; omega)]
   refine fe Tryz.func189 Tryz.ntmps189 Tryz.results189 fun hwf=>?_
   try simp (maxSteps:=9^9) only[go_sem]
   repeat refine AI ?_
   refine cw (isOne_fn n) ?_
   try simp (maxSteps:=9^9) only[go_sem]
   try simp (maxSteps:=9^9) only[go_sem,hd]
   repeat refine AI ?_
   refine cw (natGcd_fn z.natAbs n (by omega) (by omega)) ?_
   try simp (maxSteps:=9^9) only[go_sem]
   repeat refine AI ?_
   refine cw (isOne_fn (Nat.gcd z.natAbs n)) ?_
   try simp (maxSteps:=9^9) only[go_sem]
   try simp (maxSteps:=9^9) only[go_sem,hd2]
   have c1:=natDiv_fn z.natAbs (Nat.gcd z.natAbs n) hg0 (by omega) (by omega)
   rw [<-m1] at c1
   repeat refine AI ?_
   refine cw c1 ?_
   try simp (maxSteps:=9^9) only[go_sem]
   have c2:=natDiv_fn n (Nat.gcd z.natAbs n) hg0 (by omega) (by omega)
   rw [<-m2] at c2
   repeat refine AI ?_
   refine cw c2 ?_
   try simp (maxSteps:=9^9) only[go_sem]
   try simp (maxSteps:=9^9) only[go_sem,hA,hB]
theorem sgn_abs (s:Bool) (a:Nat):(sgn s a).natAbs=a:=by unfold sgn; split<;>omega
theorem sgn_neg (s:Bool) (a:Nat):decide (sgn s a < 0)=(s && decide (0 < a)):=by
 unfold sgn
 cases s
 ·simp
 ·simp<;>omega
set_option maxHeartbeats 1000000 in
theorem l04Low_fn (s:Bool) (a b:Nat) (hb:b ≠ 0) (ha:nl a<=60) (hbl:nl b<=60):Fn Tryz.prog 237 [⟨.bool,s⟩,⟨tInts,natL a⟩,⟨tInts,natL b⟩] true [⟨tRat,oD (capR (_root_.mkRat (sgn s a) b))⟩]:=by
 obtain ⟨m1,m2,m3⟩:=mk_abs (z:=sgn s a) hb
 rw [sgn_abs] at m1 m2
 rw [sgn_neg] at m3
 generalize hq:_root_.mkRat (sgn s a) b=q at *
 have hg0:0 < Nat.gcd a b:=Nat.gcd_pos_of_pos_right _ (Nat.pos_of_ne_zero hb)
 have hl1:=nl_mono (Nat.div_le_self a (Nat.gcd a b))
 have hl2:=nl_mono (Nat.div_le_self b (Nat.gcd a b))
 have hl3:=nl_mono (Nat.gcd_le_right a (Nat.pos_of_ne_zero hb))
 rw [<-m1] at hl1
 rw [<-m2] at hl2
 have hb0:¬ (nl b:Int)=0:=fun h=>hb (nl_eq_zero.1 (by omega))
 have ht1:=l02Trim_fn (natL a)
 rw [trimL_natL] at ht1
 have ht2:=l02Trim_fn (natL b)
 rw [trimL_natL] at ht2
 have hqs:sgn s q.num.natAbs=q.num:=by
  have h1:(0 < a)->0 < q.num.natAbs:=fun h=>by
   rw [m1]; exact Nat.div_pos (Nat.le_of_dvd h (Nat.gcd_dvd_left ..)) hg0
  have h2:a=0->q.num.natAbs=0:=fun h=>by rw [m1,h,Nat.zero_div]
  unfold sgn
  cases s
  ·have:¬ q.num < 0:=by simpa using m3
   simp only [Bool.false_eq_true,if_false]; omega
  ·simp only [if_true]
   rcases Nat.eq_zero_or_pos a with h|h
   ·have:=h2 h; omega
   ·have:=h1 h
    have:q.num < 0:=by simpa [h] using m3
    omega
 have hpath:(decide (b=1)=true/\a=q.num.natAbs/\b=q.den)\/(decide (b=1)=false/\decide (Nat.gcd a b=1)=true/\a=q.num.natAbs/\b=q.den)\/(decide (b=1)=false/\decide (Nat.gcd a b=1)=false):=by
  by_cases h1:b=1
  ·refine .inl ⟨decide_eq_true h1,?_,?_⟩
   ·rw [m1,h1,Nat.gcd_one_right,Nat.div_one]
   ·rw [m2,h1,Nat.gcd_one_right,Nat.div_one]
  ·by_cases h2:Nat.gcd a b=1
   ·exact .inr (.inl ⟨decide_eq_false h1,decide_eq_true h2,by rw [m1,h2,Nat.div_one],by rw [m2,h2,Nat.div_one]⟩)
   ·exact .inr (.inr ⟨decide_eq_false h1,decide_eq_false h2⟩)
 have hob:small q->Fn Tryz.prog 137 [⟨.bool,s⟩,⟨tInts,natL q.num.natAbs⟩] true [⟨tBig,bigD q.num⟩]:=fun hs=>l03Make_to hqs (by have:=hs.1; omega)
 have hend:small q\/(24:Int) < nl q.num.natAbs\/(¬ (24:Int) < nl q.num.natAbs/\(24:Int) < nl q.den):=by unfold small; omega
 rcases hpath with ⟨hd,e1,e2⟩|⟨hd,hd2,e1,e2⟩|⟨hd,hd2⟩
 ·rcases hend with hs|hA|⟨hA,hB⟩
  ·rw [capR_s hs]
   have hA:¬ (24:Int) < nl q.num.natAbs:=by have:=hs.1; omega
   have hB:¬ (24:Int) < nl q.den:=by have:=hs.2; omega
   have hob:=hob hs
   rw [<-e1] at hA hob; rw [<-e2] at hB
   refine fe Tryz.func237 Tryz.ntmps237 Tryz.results237 fun hwf=>?_
   try simp (maxSteps:=9^9) only[go_sem]
   repeat refine AI ?_
   refine cw ht1 ?_
   try simp (maxSteps:=9^9) only[go_sem]
   repeat refine AI ?_
   refine cw ht2 ?_
   try simp (maxSteps:=9^9) only[go_sem]
   try simp (maxSteps:=9^9) only[go_sem,hb0]
   repeat refine AI ?_
   refine cw (l04One_fn b) ?_
   try simp (maxSteps:=9^9) only[go_sem]
   try simp (maxSteps:=9^9) only[go_sem,hd,hA,hB]
   repeat refine AI ?_
   refine cw hob ?_
   try simp (maxSteps:=9^9) only[go_sem]
   repeat refine AI ?_
   try simp (maxSteps:=9^9) only[go_sem,e2]
   try omega
  ·rw [capR_none (by unfold small; omega)]
   rw [<-e1] at hA
   refine fe Tryz.func237 Tryz.ntmps237 Tryz.results237 fun hwf=>?_
   try simp (maxSteps:=9^9) only[go_sem]
   repeat refine AI ?_
   refine cw ht1 ?_
   try simp (maxSteps:=9^9) only[go_sem]
   repeat refine AI ?_
   refine cw ht2 ?_
   try simp (maxSteps:=9^9) only[go_sem]
   try simp (maxSteps:=9^9) only[go_sem,hb0]
   repeat refine AI ?_
   refine cw (l04One_fn b) ?_
   try simp (maxSteps:=9^9) only[go_sem]
   try simp (maxSteps:=9^9) only[go_sem,hd,hA]
  ·rw [capR_none (by unfold small; omega)]
   rw [<-e1] at hA; rw [<-e2] at hB
   refine fe Tryz.func237 Tryz.ntmps237 Tryz.results237 fun hwf=>?_
   try simp (maxSteps:=9^9) only[go_sem]
   repeat refine AI ?_
   refine cw ht1 ?_
   try simp (maxSteps:=9^9) only[go_sem]
   repeat refine AI ?_
   refine cw ht2 ?_
   try simp (maxSteps:=9^9) only[go_sem]
   try simp (maxSteps:=9^9) only[go_sem,hb0]
   repeat refine AI ?_
   refine cw (l04One_fn b) ?_
   try simp (maxSteps:=9^9) only[go_sem]
   try simp (maxSteps:=9^9) only[go_sem,hd,hA,hB]
 ·rcases hend with hs|hA|⟨hA,hB⟩
  ·rw [capR_s hs]
   have hA:¬ (24:Int) < nl q.num.natAbs:=by have:=hs.1; omega
   have hB:¬ (24:Int) < nl q.den:=by have:=hs.2; omega
   have hob:=hob hs
   rw [<-e1] at hA hob; rw [<-e2] at hB
   refine fe Tryz.func237 Tryz.ntmps237 Tryz.results237 fun hwf=>?_
   try simp (maxSteps:=9^9) only[go_sem]
   repeat refine AI ?_
   refine cw ht1 ?_
   try simp (maxSteps:=9^9) only[go_sem]
   repeat refine AI ?_
   refine cw ht2 ?_
   try simp (maxSteps:=9^9) only[go_sem]
   try simp (maxSteps:=9^9) only[go_sem,hb0]
   repeat refine AI ?_
   refine cw (l04One_fn b) ?_
   try simp (maxSteps:=9^9) only[go_sem]
   try simp (maxSteps:=9^9) only[go_sem,hd]
   repeat refine AI ?_
   refine cw (l02Gcd_fn a b (by omega) (by omega)) ?_
   try simp (maxSteps:=9^9) only[go_sem]
   repeat refine AI ?_
   refine cw (l04One_fn (Nat.gcd a b)) ?_
   try simp (maxSteps:=9^9) only[go_sem]
   try simp (maxSteps:=9^9) only[go_sem,hd2,hA,hB]
   repeat refine AI ?_
   refine cw hob ?_
   try simp (maxSteps:=9^9) only[go_sem]
   repeat refine AI ?_
   try simp (maxSteps:=9^9) only[go_sem,e2]
   try omega
  ·rw [capR_none (by unfold small; omega)]
   rw [<-e1] at hA
   refine fe Tryz.func237 Tryz.ntmps237 Tryz.results237 fun hwf=>?_
   try simp (maxSteps:=9^9) only[go_sem]
   repeat refine AI ?_
   refine cw ht1 ?_
   try simp (maxSteps:=9^9) only[go_sem]
   repeat refine AI ?_
   refine cw ht2 ?_
   try simp (maxSteps:=9^9) only[go_sem]
   try simp (maxSteps:=9^9) only[go_sem,hb0]
   repeat refine AI ?_
   refine cw (l04One_fn b) ?_
   try simp (maxSteps:=9^9) only[go_sem]
   try simp (maxSteps:=9^9) only[go_sem,hd]
   repeat refine AI ?_
   refine cw (l02Gcd_fn a b (by omega) (by omega)) ?_
   try simp (maxSteps:=9^9) only[go_sem]
   repeat refine AI ?_
   refine cw (l04One_fn (Nat.gcd a b)) ?_
   try simp (maxSteps:=9^9) only[go_sem]
   try simp (maxSteps:=9^9) only[go_sem,hd2,hA]
  ·rw [capR_none (by unfold small; omega)]
   rw [<-e1] at hA; rw [<-e2] at hB
   refine fe Tryz.func237 Tryz.ntmps237 Tryz.results237 fun hwf=>?_
   try simp (maxSteps:=9^9) only[go_sem]
   repeat refine AI ?_
   refine cw ht1 ?_
   try simp (maxSteps:=9^9) only[go_sem]
   repeat refine AI ?_
   refine cw ht2 ?_
   try simp (maxSteps:=9^9) only[go_sem]
   try simp (maxSteps:=9^9) only[go_sem,hb0]
   repeat refine AI ?_
   refine cw (l04One_fn b) ?_
   try simp (maxSteps:=9^9) only[go_sem]
   try simp (maxSteps:=9^9) only[go_sem,hd]
   repeat refine AI ?_
   refine cw (l02Gcd_fn a b (by omega) (by omega)) ?_
   try simp (maxSteps:=9^9) only[go_sem]
   repeat refine AI ?_
   refine cw (l04One_fn (Nat.gcd a b)) ?_
   try simp (maxSteps:=9^9) only[go_sem]
   try simp (maxSteps:=9^9) only[go_sem,hd2,hA,hB]
 ·rcases hend with hs|hA|⟨hA,hB⟩
  ·rw [capR_s hs]
   have hA:¬ (24:Int) < nl q.num.natAbs:=by have:=hs.1; omega
   have hB:¬ (24:Int) < nl q.den:=by have:=hs.2; omega
   have hob:=hob hs
   refine fe Tryz.func237 Tryz.ntmps237 Tryz.results237 fun hwf=>?_
   try simp (maxSteps:=9^9) only[go_sem]
   repeat refine AI ?_
   refine cw ht1 ?_
   try simp (maxSteps:=9^9) only[go_sem]
   repeat refine AI ?_
   refine cw ht2 ?_
   try simp (maxSteps:=9^9) only[go_sem]
   try simp (maxSteps:=9^9) only[go_sem,hb0]
   repeat refine AI ?_
   refine cw (l04One_fn b) ?_
   try simp (maxSteps:=9^9) only[go_sem]
   try simp (maxSteps:=9^9) only[go_sem,hd]
   repeat refine AI ?_
   refine cw (l02Gcd_fn a b (by omega) (by omega)) ?_
   try simp (maxSteps:=9^9) only[go_sem]
   repeat refine AI ?_
   refine cw (l04One_fn (Nat.gcd a b)) ?_
   try simp (maxSteps:=9^9) only[go_sem]
   try simp (maxSteps:=9^9) only[go_sem,hd2]
   have c1:=l02Div_fn a (Nat.gcd a b) hg0 (by omega) (by omega)
   rw [<-m1] at c1
   repeat refine AI ?_
   refine cw c1 ?_
   try simp (maxSteps:=9^9) only[go_sem]
   have c2:=l02Div_fn b (Nat.gcd a b) hg0 (by omega) (by omega)
   rw [<-m2] at c2
   repeat refine AI ?_
   refine cw c2 ?_
   try simp (maxSteps:=9^9) only[go_sem]
   try simp (maxSteps:=9^9) only[go_sem,hA,hB]
   repeat refine AI ?_
   refine cw hob ?_
   try simp (maxSteps:=9^9) only[go_sem]
   repeat refine AI ?_
   try simp (maxSteps:=9^9) only[go_sem]
   try omega
  ·rw [capR_none (by unfold small; omega)]
   refine fe Tryz.func237 Tryz.ntmps237 Tryz.results237 fun hwf=>?_
   try simp (maxSteps:=9^9) only[go_sem]
   repeat refine AI ?_
   refine cw ht1 ?_
   try simp (maxSteps:=9^9) only[go_sem]
   repeat refine AI ?_
   refine cw ht2 ?_
   try simp (maxSteps:=9^9) only[go_sem]
   try simp (maxSteps:=9^9) only[go_sem,hb0]
   repeat refine AI ?_
   refine cw (l04One_fn b) ?_
   try simp (maxSteps:=9^9) only[go_sem]
   try simp (maxSteps:=9^9) only[go_sem,hd]
   repeat refine AI ?_
   refine cw (l02Gcd_fn a b (by omega) (by omega)) ?_
   try simp (maxSteps:=9^9) only[go_sem]
   repeat refine AI ?_
   refine cw (l04One_fn (Nat.gcd a b)) ?_
   try simp (maxSteps:=9^9) only[go_sem]
   try simp (maxSteps:=9^9) only[go_sem,hd2]
   have c1:=l02Div_fn a (Nat.gcd a b) hg0 (by omega) (by omega)
   rw [<-m1] at c1
   repeat refine AI ?_
   refine cw c1 ?_
   try simp (maxSteps:=9^9) only[go_sem]
   have c2:=l02Div_fn b (Nat.gcd a b) hg0 (by omega) (by omega)
   rw [<-m2] at c2
   repeat refine AI ?_
   refine cw c2 ?_
   try simp (maxSteps:=9^9) only[go_sem]
   try simp (maxSteps:=9^9) only[go_sem,hA]
  ·rw [capR_none (by unfold small; omega)]
   refine fe Tryz.func237 Tryz.ntmps237 Tryz.results237 fun hwf=>?_
   try simp (maxSteps:=9^9) only[go_sem]
   repeat refine AI ?_
   refine cw ht1 ?_
   try simp (maxSteps:=9^9) only[go_sem]
   repeat refine AI ?_
   refine cw ht2 ?_
   try simp (maxSteps:=9^9) only[go_sem]
   try simp (maxSteps:=9^9) only[go_sem,hb0]
   repeat refine AI ?_
   refine cw (l04One_fn b) ?_
   try simp (maxSteps:=9^9) only[go_sem]
   try simp (maxSteps:=9^9) only[go_sem,hd]
   repeat refine AI ?_
   refine cw (l02Gcd_fn a b (by omega) (by omega)) ?_
   try simp (maxSteps:=9^9) only[go_sem]
   repeat refine AI ?_
   refine cw (l04One_fn (Nat.gcd a b)) ?_
   try simp (maxSteps:=9^9) only[go_sem]
   try simp (maxSteps:=9^9) only[go_sem,hd2]
   have c1:=l02Div_fn a (Nat.gcd a b) hg0 (by omega) (by omega)
   rw [<-m1] at c1
   repeat refine AI ?_
   refine cw c1 ?_
   try simp (maxSteps:=9^9) only[go_sem]
   have c2:=l02Div_fn b (Nat.gcd a b) hg0 (by omega) (by omega)
   rw [<-m2] at c2
   repeat refine AI ?_
   refine cw c2 ?_
   try simp (maxSteps:=9^9) only[go_sem]
   try simp (maxSteps:=9^9) only[go_sem,hA,hB]
attribute [go_sem] Option.isSome_none bigD_nat
theorem isGood_n:Fn Tryz.prog 174 [⟨tRat,((false,[]),[])⟩] false [⟨.bool,false⟩]:=isGood_fn none
theorem isGood_s (q:Rat):Fn Tryz.prog 174 [⟨tRat,ratD q⟩] false [⟨.bool,true⟩]:=isGood_fn (some q)
theorem ratCmp_fn (x y:Option Rat) (hx:okO x) (hy:okO y):Fn Tryz.prog 175 [⟨tRat,oD x⟩,⟨tRat,oD y⟩] false [⟨.int,cmpO x y⟩]:=by
 cases x with
 | none =>
  refine fe Tryz.func175 Tryz.ntmps175 Tryz.results175 fun hwf=>?_
  try simp (maxSteps:=9^9) only[go_sem]
  repeat refine AI ?_
  refine cw isGood_n ?_
  try simp (maxSteps:=9^9) only[go_sem]
  rfl
 | some p =>
  cases y with
  | none =>
   refine fe Tryz.func175 Tryz.ntmps175 Tryz.results175 fun hwf=>?_
   try simp (maxSteps:=9^9) only[go_sem]
   repeat refine AI ?_
   refine cw (isGood_s p) ?_
   try simp (maxSteps:=9^9) only[go_sem]
   repeat refine AI ?_
   refine cw isGood_n ?_
   try simp (maxSteps:=9^9) only[go_sem]
   rfl
  | some q =>
   obtain ⟨p1,p2⟩:=hx p rfl
   obtain ⟨q1,q2⟩:=hy q rfl
   refine fe Tryz.func175 Tryz.ntmps175 Tryz.results175 fun hwf=>?_
   try simp (maxSteps:=9^9) only[go_sem]
   repeat refine AI ?_
   refine cw (isGood_s p) ?_
   try simp (maxSteps:=9^9) only[go_sem]
   repeat refine AI ?_
   refine cw (isGood_s q) ?_
   try simp (maxSteps:=9^9) only[go_sem]
   repeat refine AI ?_
   refine cw (bigMulN_fn p.num q.den (by omega) (by omega)) ?_
   try simp (maxSteps:=9^9) only[go_sem]
   repeat refine AI ?_
   refine cw (bigMulN_fn q.num p.den (by omega) (by omega)) ?_
   try simp (maxSteps:=9^9) only[go_sem]
   repeat refine AI ?_
   refine cw (bigCmp_fn (p.num * q.den) (q.num * p.den)) ?_
   try simp (maxSteps:=9^9) only[go_sem]
   repeat refine AI ?_
   exact (cmpQ_eq p q).symm
theorem nl_mulZ (a:Int) (n:Nat):nl (a * (n:Int)).natAbs<=nl a.natAbs+nl n:=by
 rw [Int.natAbs_mul,Int.natAbs_natCast]; exact nl_mul _ _
theorem nl_addZ (a b:Int):nl (a+b).natAbs<=max (nl a.natAbs) (nl b.natAbs)+1:=Nat.le_trans (nl_mono (Int.natAbs_add_le a b)) (nl_add _ _)
theorem nl_mulI (a b:Int):nl (a * b).natAbs<=nl a.natAbs+nl b.natAbs:=by
 rw [Int.natAbs_mul]; exact nl_mul _ _
theorem den_mul_ne (p q:Rat):p.den * q.den ≠ 0:=Nat.mul_ne_zero p.den_nz q.den_nz
theorem ratAdd_fn (x y:Option Rat) (hx:okO x) (hy:okO y):Fn Tryz.prog 149 [⟨tRat,oD x⟩,⟨tRat,oD y⟩] true [⟨tRat,oD (addO x y)⟩]:=by
 cases x with
 | none =>
  refine fe Tryz.func149 Tryz.ntmps149 Tryz.results149 fun hwf=>?_
  try simp (maxSteps:=9^9) only[go_sem]
  repeat refine AI ?_
  refine cw isGood_n ?_
  try simp (maxSteps:=9^9) only[go_sem]
  try simp (maxSteps:=9^9) only[go_sem,addO]
 | some p =>
  cases y with
  | none =>
   refine fe Tryz.func149 Tryz.ntmps149 Tryz.results149 fun hwf=>?_
   try simp (maxSteps:=9^9) only[go_sem]
   repeat refine AI ?_
   refine cw (isGood_s p) ?_
   try simp (maxSteps:=9^9) only[go_sem]
   repeat refine AI ?_
   refine cw isGood_n ?_
   try simp (maxSteps:=9^9) only[go_sem]
   try simp (maxSteps:=9^9) only[go_sem,addO]
  | some q =>
   obtain ⟨p1,p2⟩:=hx p rfl
   obtain ⟨q1,q2⟩:=hy q rfl
   have b1:=nl_mulZ p.num q.den
   have b2:=nl_mulZ q.num p.den
   have b3:=nl_addZ (p.num * q.den) (q.num * p.den)
   have b4:=nl_mul p.den q.den
   have hm:=ratMake_end (p.num * q.den+q.num * p.den) (p.den * q.den) (den_mul_ne p q) (by omega) (by omega)
   rw [<-add_mk] at hm
   have e:addO (some p) (some q)=capR (p+q):=rfl
   rw [e]
   refine fe Tryz.func149 Tryz.ntmps149 Tryz.results149 fun hwf=>?_
   try simp (maxSteps:=9^9) only[go_sem]
   repeat refine AI ?_
   refine cw (isGood_s p) ?_
   try simp (maxSteps:=9^9) only[go_sem]
   repeat refine AI ?_
   refine cw (isGood_s q) ?_
   try simp (maxSteps:=9^9) only[go_sem]
   repeat refine AI ?_
   refine cw (bigMulN_fn p.num q.den (by omega) (by omega)) ?_
   try simp (maxSteps:=9^9) only[go_sem]
   repeat refine AI ?_
   refine cw (bigMulN_fn q.num p.den (by omega) (by omega)) ?_
   try simp (maxSteps:=9^9) only[go_sem]
   repeat refine AI ?_
   refine cw (bigAdd_fn (p.num * q.den) (q.num * p.den) (by omega) (by omega)) ?_
   try simp (maxSteps:=9^9) only[go_sem]
   repeat refine AI ?_
   refine cw (natMul_fn p.den q.den (by omega) (by omega)) ?_
   try simp (maxSteps:=9^9) only[go_sem]
   repeat refine AI ?_
   refine cw hm ?_
   try simp (maxSteps:=9^9) only[go_sem]
   all_goals repeat refine AI ?_
   all_goals first|kernel_rfl|omega|rfl
theorem ratNeg_fn (x:Option Rat):Fn Tryz.prog 150 [⟨tRat,oD x⟩] false [⟨tRat,oD (negO x)⟩]:=by
 cases x with
 | none =>
  have hb:=bigNeg_fn 0
  rw [Int.neg_zero,bigD_zero] at hb
  refine fe Tryz.func150 Tryz.ntmps150 Tryz.results150 fun hwf=>?_
  try simp (maxSteps:=9^9) only[go_sem]
  repeat refine AI ?_
  refine cw hb ?_
  try simp (maxSteps:=9^9) only[go_sem]
  try simp (maxSteps:=9^9) only[go_sem,negO]
  all_goals repeat refine AI ?_
  all_goals first|kernel_rfl|omega|rfl
 | some p =>
  refine fe Tryz.func150 Tryz.ntmps150 Tryz.results150 fun hwf=>?_
  try simp (maxSteps:=9^9) only[go_sem]
  repeat refine AI ?_
  refine cw (bigNeg_fn p.num) ?_
  try simp (maxSteps:=9^9) only[go_sem]
  try simp (maxSteps:=9^9) only[go_sem,negO,Rat.neg_num,Rat.neg_den]
  all_goals repeat refine AI ?_
  all_goals first|kernel_rfl|omega|rfl
theorem ratSub_fn (x y:Option Rat) (hx:okO x) (hy:okO y):Fn Tryz.prog 107 [⟨tRat,oD x⟩,⟨tRat,oD y⟩] true [⟨tRat,oD (subO x y)⟩]:=by
 show Fn _ _ _ _ [⟨tRat,oD (addO x (negO y))⟩]
 have h1:=ratNeg_fn y
 have h2:=ratAdd_fn x (negO y) hx (okO_neg hy)
 refine fe Tryz.func107 Tryz.ntmps107 Tryz.results107 fun hwf=>?_
 try simp (maxSteps:=9^9) only[go_sem]
 repeat refine AI ?_
 refine cw h1 ?_
 try simp (maxSteps:=9^9) only[go_sem]
 repeat refine AI ?_
 refine cw h2 ?_
 try simp (maxSteps:=9^9) only[go_sem]
 all_goals repeat refine AI ?_
 all_goals first|kernel_rfl|omega|rfl
theorem cmpQ_zero (p:Rat):cmpQ p 0=cmpZ p.num 0:=by
 rw [cmpQ_eq]
 simp
theorem ratSign_fn (x:Option Rat):Fn Tryz.prog 186 [⟨tRat,oD x⟩] false [⟨.int,sgnO x⟩]:=by
 cases x with
 | none =>
  refine fe Tryz.func186 Tryz.ntmps186 Tryz.results186 fun hwf=>?_
  try simp (maxSteps:=9^9) only[go_sem]
  repeat refine AI ?_
  refine cw isGood_n ?_
  try simp (maxSteps:=9^9) only[go_sem]
  try simp (maxSteps:=9^9) only[go_sem,sgnO]
 | some p =>
  have e:sgnO (some p)=cmpZ p.num 0:=cmpQ_zero p
  rw [e]
  by_cases h0:(nl p.num.natAbs:Int)=0
  ·have:p.num=0:=by have:=nl_eq_zero.1 (show nl p.num.natAbs=0 by omega); omega
   refine fe Tryz.func186 Tryz.ntmps186 Tryz.results186 fun hwf=>?_
   try simp (maxSteps:=9^9) only[go_sem]
   repeat refine AI ?_
   refine cw (isGood_s p) ?_
   try simp (maxSteps:=9^9) only[go_sem]
   try simp (maxSteps:=9^9) only[go_sem,h0]
   simp [cmpZ,this]
  ·have h1:p.num ≠ 0:=fun h=>h0 (by rw [h]; simp [nl_zero])
   by_cases h2:p.num < 0
   ·refine fe Tryz.func186 Tryz.ntmps186 Tryz.results186 fun hwf=>?_
    try simp (maxSteps:=9^9) only[go_sem]
    repeat refine AI ?_
    refine cw (isGood_s p) ?_
    try simp (maxSteps:=9^9) only[go_sem]
    try simp (maxSteps:=9^9) only[go_sem,h0,h2]
    simp [cmpZ,h2]
   ·have h3:0 < p.num:=by omega
    refine fe Tryz.func186 Tryz.ntmps186 Tryz.results186 fun hwf=>?_
    try simp (maxSteps:=9^9) only[go_sem]
    repeat refine AI ?_
    refine cw (isGood_s p) ?_
    try simp (maxSteps:=9^9) only[go_sem]
    try simp (maxSteps:=9^9) only[go_sem,h0,h2]
    simp [cmpZ,h2,h3]
noncomputable def maxO:Option Rat->Option Rat->Option Rat
 | some p,some q=>if 0<=cmpQ p q then some p else some q
 | _,_=>none
noncomputable def minO:Option Rat->Option Rat->Option Rat
 | some p,some q=>if cmpQ p q<=0 then some p else some q
 | _,_=>none
theorem okO_max {x y:Option Rat} (hx:okO x) (hy:okO y):okO (maxO x y):=by
 unfold maxO
 split
 ·split
  ·exact hx
  ·exact hy
 ·exact okO_none
theorem okO_min {x y:Option Rat} (hx:okO x) (hy:okO y):okO (minO x y):=by
 unfold minO
 split
 ·split
  ·exact hx
  ·exact hy
 ·exact okO_none
theorem ratMax_fn (x y:Option Rat) (hx:okO x) (hy:okO y):Fn Tryz.prog 246 [⟨tRat,oD x⟩,⟨tRat,oD y⟩] false [⟨tRat,oD (maxO x y)⟩]:=by
 cases x with
 | none =>
  refine fe Tryz.func246 Tryz.ntmps246 Tryz.results246 fun hwf=>?_
  try simp (maxSteps:=9^9) only[go_sem]
  repeat refine AI ?_
  refine cw isGood_n ?_
  try simp (maxSteps:=9^9) only[go_sem]
  try simp (maxSteps:=9^9) only[go_sem,maxO]
 | some p =>
  cases y with
  | none =>
   refine fe Tryz.func246 Tryz.ntmps246 Tryz.results246 fun hwf=>?_
   try simp (maxSteps:=9^9) only[go_sem]
   repeat refine AI ?_
   refine cw (isGood_s p) ?_
   try simp (maxSteps:=9^9) only[go_sem]
   repeat refine AI ?_
   refine cw isGood_n ?_
   try simp (maxSteps:=9^9) only[go_sem]
   try simp (maxSteps:=9^9) only[go_sem,maxO]
  | some q =>
   have hc:=ratCmp_fn (some p) (some q) hx hy
   have e:cmpO (some p) (some q)=cmpQ p q:=rfl
   rw [e] at hc
   by_cases h:0<=cmpQ p q
   ·have e2:maxO (some p) (some q)=some p:=if_pos h
    rw [e2]
    refine fe Tryz.func246 Tryz.ntmps246 Tryz.results246 fun hwf=>?_
    try simp (maxSteps:=9^9) only[go_sem]
    repeat refine AI ?_
    refine cw (isGood_s p) ?_
    try simp (maxSteps:=9^9) only[go_sem]
    repeat refine AI ?_
    refine cw (isGood_s q) ?_
    try simp (maxSteps:=9^9) only[go_sem]
    repeat refine AI ?_
    refine cw hc ?_
    try simp (maxSteps:=9^9) only[go_sem]
    try simp (maxSteps:=9^9) only[go_sem,h]
   ·have e2:maxO (some p) (some q)=some q:=if_neg h
    rw [e2]
    refine fe Tryz.func246 Tryz.ntmps246 Tryz.results246 fun hwf=>?_
    try simp (maxSteps:=9^9) only[go_sem]
    repeat refine AI ?_
    refine cw (isGood_s p) ?_
    try simp (maxSteps:=9^9) only[go_sem]
    repeat refine AI ?_
    refine cw (isGood_s q) ?_
    try simp (maxSteps:=9^9) only[go_sem]
    repeat refine AI ?_
    refine cw hc ?_
    try simp (maxSteps:=9^9) only[go_sem]
    try simp (maxSteps:=9^9) only[go_sem,h]
theorem sgn_mulN (x:Int) (n:Nat):sgn (decide (x < 0)) (x.natAbs * n)=x * n:=by
 unfold sgn
 by_cases h:x < 0
 ·simp only [h,decide_true,if_true,Int.natCast_mul]
  rw [show (x.natAbs:Int)=-x by omega,Int.neg_mul,Int.neg_neg]
 ·simp only [h,decide_false,Bool.false_eq_true,if_false,Int.natCast_mul]
  rw [show (x.natAbs:Int)=x by omega]
theorem l04Cmp_fn (p q:Rat) (hp:small p) (hq:small q):Fn Tryz.prog 241 [⟨tRat,ratD p⟩,⟨tRat,ratD q⟩] false [⟨.int,cmpQ p q⟩]:=by
 obtain ⟨p1,p2⟩:=hp
 obtain ⟨q1,q2⟩:=hq
 have b1:=nl_mul p.num.natAbs q.den
 have b2:=nl_mul q.num.natAbs p.den
 refine fe Tryz.func241 Tryz.ntmps241 Tryz.results241 fun hwf=>?_
 try simp (maxSteps:=9^9) only[go_sem]
 repeat refine AI ?_
 refine cw (l02Mul_fn p.num.natAbs q.den (by omega) (by omega)) ?_
 try simp (maxSteps:=9^9) only[go_sem]
 repeat refine AI ?_
 refine cw (l03Make_to (sgn_mulN p.num q.den) (by omega)) ?_
 try simp (maxSteps:=9^9) only[go_sem]
 repeat refine AI ?_
 refine cw (l02Mul_fn q.num.natAbs p.den (by omega) (by omega)) ?_
 try simp (maxSteps:=9^9) only[go_sem]
 repeat refine AI ?_
 refine cw (l03Make_to (sgn_mulN q.num p.den) (by omega)) ?_
 try simp (maxSteps:=9^9) only[go_sem]
 repeat refine AI ?_
 refine cw (l03Cmp_fn (p.num * q.den) (q.num * p.den)) ?_
 try simp (maxSteps:=9^9) only[go_sem]
 repeat refine AI ?_
 exact (cmpQ_eq p q).symm
theorem specRatCmp_fn (r s:DR):Fn Tryz.prog 208 [⟨tRat,r⟩,⟨tRat,s⟩] false [⟨.int,cmpO (rdO r) (rdO s)⟩]:=by
 cases hr:okR r
 ·rw [okR_f hr]
  refine fe Tryz.func208 Tryz.ntmps208 Tryz.results208 fun hwf=>?_
  try simp (maxSteps:=9^9) only[go_sem]
  repeat refine AI ?_
  refine cw (specRatOk_fn r) ?_
  try simp (maxSteps:=9^9) only[go_sem]
  try simp (maxSteps:=9^9) only[go_sem,hr]
  rfl
 ·cases hs:okR s
  ·rw [okR_f hs]
   have e:cmpO (rdO r) none=0:=by unfold cmpO; cases rdO r<;>rfl
   rw [e]
   refine fe Tryz.func208 Tryz.ntmps208 Tryz.results208 fun hwf=>?_
   try simp (maxSteps:=9^9) only[go_sem]
   repeat refine AI ?_
   refine cw (specRatOk_fn r) ?_
   try simp (maxSteps:=9^9) only[go_sem]
   try simp (maxSteps:=9^9) only[go_sem,hr]
   repeat refine AI ?_
   refine cw (specRatOk_fn s) ?_
   try simp (maxSteps:=9^9) only[go_sem]
   try simp (maxSteps:=9^9) only[go_sem,hs]
  ·obtain ⟨p,hp,rfl,e1⟩:=okR_t hr
   obtain ⟨q,hq,rfl,e2⟩:=okR_t hs
   rw [e1,e2]
   have hr':okR ((decide (p.num < 0),natL p.num.natAbs),natL p.den)=true:=hr
   have hs':okR ((decide (q.num < 0),natL q.num.natAbs),natL q.den)=true:=hs
   refine fe Tryz.func208 Tryz.ntmps208 Tryz.results208 fun hwf=>?_
   try simp (maxSteps:=9^9) only[go_sem]
   repeat refine AI ?_
   refine cw (specRatOk_fn (ratD p)) ?_
   try simp (maxSteps:=9^9) only[go_sem]
   try simp (maxSteps:=9^9) only[go_sem,hr']
   repeat refine AI ?_
   refine cw (specRatOk_fn (ratD q)) ?_
   try simp (maxSteps:=9^9) only[go_sem]
   try simp (maxSteps:=9^9) only[go_sem,hs']
   repeat refine AI ?_
   refine cw (l04Cmp_fn p q hp hq) ?_
   try simp (maxSteps:=9^9) only[go_sem]
   rfl
theorem l04Copy_fn (r:DR) (h1:r.1.2.length<=16777216) (h2:r.2.length<=16777216):Fn Tryz.prog 96 [⟨tRat,r⟩] true [⟨tRat,r⟩]:=by
 obtain ⟨⟨s,a⟩,d⟩:=r
 simp only at h1 h2
 refine fe Tryz.func96 Tryz.ntmps96 Tryz.results96 fun hwf=>?_
 try simp (maxSteps:=9^9) only[go_sem]
 all_goals repeat refine AI ?_
 all_goals first|kernel_rfl|omega|rfl
theorem copyD_fn (p:Rat) (hp:small p):Fn Tryz.prog 96 [⟨tRat,ratD p⟩] true [⟨tRat,ratD p⟩]:=l04Copy_fn _ (by have:=hp.1; show nl p.num.natAbs<=_; omega) (by have:=hp.2; show nl p.den<=_; omega)
theorem specRatMax_fn (r s:DR):Fn Tryz.prog 268 [⟨tRat,r⟩,⟨tRat,s⟩] true [⟨tRat,oD (maxO (rdO r) (rdO s))⟩]:=by
 cases hr:okR r
 ·rw [okR_f hr]
  have e:maxO none (rdO s)=none:=rfl
  rw [e]
  refine fe Tryz.func268 Tryz.ntmps268 Tryz.results268 fun hwf=>?_
  try simp (maxSteps:=9^9) only[go_sem]
  repeat refine AI ?_
  refine cw (specRatOk_fn r) ?_
  try simp (maxSteps:=9^9) only[go_sem]
  try simp (maxSteps:=9^9) only[go_sem,hr]
 ·cases hs:okR s
  ·rw [okR_f hs]
   have e:maxO (rdO r) none=none:=by unfold maxO; cases rdO r<;>rfl
   rw [e]
   refine fe Tryz.func268 Tryz.ntmps268 Tryz.results268 fun hwf=>?_
   try simp (maxSteps:=9^9) only[go_sem]
   repeat refine AI ?_
   refine cw (specRatOk_fn r) ?_
   try simp (maxSteps:=9^9) only[go_sem]
   try simp (maxSteps:=9^9) only[go_sem,hr]
   repeat refine AI ?_
   refine cw (specRatOk_fn s) ?_
   try simp (maxSteps:=9^9) only[go_sem]
   try simp (maxSteps:=9^9) only[go_sem,hs]
  ·obtain ⟨p,hp,rfl,e1⟩:=okR_t hr
   obtain ⟨q,hq,rfl,e2⟩:=okR_t hs
   rw [e1,e2]
   have hr':okR ((decide (p.num < 0),natL p.num.natAbs),natL p.den)=true:=hr
   have hs':okR ((decide (q.num < 0),natL q.num.natAbs),natL q.den)=true:=hs
   by_cases h:0<=cmpQ p q
   ·have e3:maxO (some p) (some q)=some p:=if_pos h
    rw [e3]
    refine fe Tryz.func268 Tryz.ntmps268 Tryz.results268 fun hwf=>?_
    try simp (maxSteps:=9^9) only[go_sem]
    repeat refine AI ?_
    refine cw (specRatOk_fn (ratD p)) ?_
    try simp (maxSteps:=9^9) only[go_sem]
    try simp (maxSteps:=9^9) only[go_sem,hr']
    repeat refine AI ?_
    refine cw (specRatOk_fn (ratD q)) ?_
    try simp (maxSteps:=9^9) only[go_sem]
    try simp (maxSteps:=9^9) only[go_sem,hs']
    repeat refine AI ?_
    refine cw (l04Cmp_fn p q hp hq) ?_
    try simp (maxSteps:=9^9) only[go_sem]
    try simp (maxSteps:=9^9) only[go_sem,h]
    repeat refine AI ?_
    refine cw (copyD_fn p hp) ?_
    try simp (maxSteps:=9^9) only[go_sem]
   ·have e3:maxO (some p) (some q)=some q:=if_neg h
    rw [e3]
    refine fe Tryz.func268 Tryz.ntmps268 Tryz.results268 fun hwf=>?_
    try simp (maxSteps:=9^9) only[go_sem]
    repeat refine AI ?_
    refine cw (specRatOk_fn (ratD p)) ?_
    try simp (maxSteps:=9^9) only[go_sem]
    try simp (maxSteps:=9^9) only[go_sem,hr']
    repeat refine AI ?_
    refine cw (specRatOk_fn (ratD q)) ?_
    try simp (maxSteps:=9^9) only[go_sem]
    try simp (maxSteps:=9^9) only[go_sem,hs']
    repeat refine AI ?_
    refine cw (l04Cmp_fn p q hp hq) ?_
    try simp (maxSteps:=9^9) only[go_sem]
    try simp (maxSteps:=9^9) only[go_sem,h]
    repeat refine AI ?_
    refine cw (copyD_fn q hq) ?_
    try simp (maxSteps:=9^9) only[go_sem]
theorem specRatSign_fn (r:DR):Fn Tryz.prog 204 [⟨tRat,r⟩] false [⟨.int,sgnO (rdO r)⟩]:=by
 cases hr:okR r
 ·rw [okR_f hr]
  refine fe Tryz.func204 Tryz.ntmps204 Tryz.results204 fun hwf=>?_
  try simp (maxSteps:=9^9) only[go_sem]
  repeat refine AI ?_
  refine cw (specRatOk_fn r) ?_
  try simp (maxSteps:=9^9) only[go_sem]
  try simp (maxSteps:=9^9) only[go_sem,hr]
  rfl
 ·obtain ⟨p,hp,rfl,e1⟩:=okR_t hr
  rw [e1]
  have hr':okR ((decide (p.num < 0),natL p.num.natAbs),natL p.den)=true:=hr
  have e:sgnO (some p)=cmpZ p.num 0:=cmpQ_zero p
  rw [e]
  by_cases h0:(nl p.num.natAbs:Int)=0
  ·have:p.num=0:=by have:=nl_eq_zero.1 (show nl p.num.natAbs=0 by omega); omega
   refine fe Tryz.func204 Tryz.ntmps204 Tryz.results204 fun hwf=>?_
   try simp (maxSteps:=9^9) only[go_sem]
   repeat refine AI ?_
   refine cw (specRatOk_fn (ratD p)) ?_
   try simp (maxSteps:=9^9) only[go_sem]
   try simp (maxSteps:=9^9) only[go_sem,hr']
   try simp (maxSteps:=9^9) only[go_sem,h0]
   simp [cmpZ,this]
  ·have h1:p.num ≠ 0:=fun h=>h0 (by rw [h]; simp [nl_zero])
   by_cases h2:p.num < 0
   ·refine fe Tryz.func204 Tryz.ntmps204 Tryz.results204 fun hwf=>?_
    try simp (maxSteps:=9^9) only[go_sem]
    repeat refine AI ?_
    refine cw (specRatOk_fn (ratD p)) ?_
    try simp (maxSteps:=9^9) only[go_sem]
    try simp (maxSteps:=9^9) only[go_sem,hr']
    try simp (maxSteps:=9^9) only[go_sem,h0,h2]
    simp [cmpZ,h2]
   ·have h3:0 < p.num:=by omega
    refine fe Tryz.func204 Tryz.ntmps204 Tryz.results204 fun hwf=>?_
    try simp (maxSteps:=9^9) only[go_sem]
    repeat refine AI ?_
    refine cw (specRatOk_fn (ratD p)) ?_
    try simp (maxSteps:=9^9) only[go_sem]
    try simp (maxSteps:=9^9) only[go_sem,hr']
    try simp (maxSteps:=9^9) only[go_sem,h0,h2]
    simp [cmpZ,h2,h3]
theorem sgn_negZ (z:Int):sgn (!decide (z < 0)) z.natAbs=-z:=by
 unfold sgn
 by_cases h:z < 0
 ·simp [h]; omega
 ·simp [h]; omega
theorem l04Neg_fn (p:Rat) (hp:small p):Fn Tryz.prog 206 [⟨tRat,ratD p⟩] true [⟨tRat,ratD (-p)⟩]:=by
 obtain ⟨p1,p2⟩:=hp
 refine fe Tryz.func206 Tryz.ntmps206 Tryz.results206 fun hwf=>?_
 try simp (maxSteps:=9^9) only[go_sem]
 repeat refine AI ?_
 refine cw (l03Make_to (sgn_negZ p.num) (by omega)) ?_
 try simp (maxSteps:=9^9) only[go_sem]
 try simp (maxSteps:=9^9) only[go_sem,Rat.neg_num,Rat.neg_den]
 all_goals repeat refine AI ?_
 all_goals first|kernel_rfl|omega|rfl
theorem natL_1:natL 1=[1]:=natL_one (by decide) (by decide)
theorem l04Add_fn (p q:Rat) (hp:small p) (hq:small q):Fn Tryz.prog 205 [⟨tRat,ratD p⟩,⟨tRat,ratD q⟩] true [⟨tRat,oD (capR (p+q))⟩]:=by
 obtain ⟨p1,p2⟩:=hp
 obtain ⟨q1,q2⟩:=hq
 have b1:=nl_mulZ p.num q.den
 have b2:=nl_mulZ q.num p.den
 have b3:=nl_addZ (p.num * q.den) (q.num * p.den)
 have b4:=nl_mul p.den q.den
 have b5:=nl_mul p.num.natAbs q.den
 have b6:=nl_mul q.num.natAbs p.den
 have b7:=nl_addZ p.num q.num
 have hl:=l04Low_fn (decide (p.num * q.den+q.num * p.den < 0)) (p.num * q.den+q.num * p.den).natAbs (p.den * q.den) (den_mul_ne p q) (by omega) (by omega)
 rw [sgn_bigD,<-add_mk] at hl
 by_cases h1:p.den=1
 ·by_cases h2:q.den=1
  ·have hl1:=l04Low_fn (decide (p.num+q.num < 0)) (p.num+q.num).natAbs 1 (by decide) (by omega) (by have:=nl_small (n:=1) (by decide); omega)
   have e:_root_.mkRat (p.num+q.num) 1=p+q:=by rw [add_mk,h1,h2]; simp
   rw [sgn_bigD,natL_1,e] at hl1
   have d1:decide (p.den=1)=true:=decide_eq_true h1
   have d2:decide (q.den=1)=true:=decide_eq_true h2
   refine fe Tryz.func205 Tryz.ntmps205 Tryz.results205 fun hwf=>?_
   try simp (maxSteps:=9^9) only[go_sem]
   repeat refine AI ?_
   refine cw (l04One_fn p.den) ?_
   try simp (maxSteps:=9^9) only[go_sem]
   try simp (maxSteps:=9^9) only[go_sem,d1]
   repeat refine AI ?_
   refine cw (l04One_fn q.den) ?_
   try simp (maxSteps:=9^9) only[go_sem]
   try simp (maxSteps:=9^9) only[go_sem,d2]
   repeat refine AI ?_
   refine cw (l03Add_fn p.num q.num (by omega) (by omega)) ?_
   try simp (maxSteps:=9^9) only[go_sem]
   repeat refine AI ?_
   refine cw hl1 ?_
   try simp (maxSteps:=9^9) only[go_sem]
   all_goals repeat refine AI ?_
   all_goals first|kernel_rfl|omega|rfl
  ·have d1:decide (p.den=1)=true:=decide_eq_true h1
   have d2:decide (q.den=1)=false:=decide_eq_false h2
   refine fe Tryz.func205 Tryz.ntmps205 Tryz.results205 fun hwf=>?_
   try simp (maxSteps:=9^9) only[go_sem]
   repeat refine AI ?_
   refine cw (l04One_fn p.den) ?_
   try simp (maxSteps:=9^9) only[go_sem]
   try simp (maxSteps:=9^9) only[go_sem,d1]
   repeat refine AI ?_
   refine cw (l04One_fn q.den) ?_
   try simp (maxSteps:=9^9) only[go_sem]
   try simp (maxSteps:=9^9) only[go_sem,d2]
   repeat refine AI ?_
   refine cw (l02Mul_fn p.num.natAbs q.den (by omega) (by omega)) ?_
   try simp (maxSteps:=9^9) only[go_sem]
   repeat refine AI ?_
   refine cw (l03Make_to (sgn_mulN p.num q.den) (by omega)) ?_
   try simp (maxSteps:=9^9) only[go_sem]
   repeat refine AI ?_
   refine cw (l02Mul_fn q.num.natAbs p.den (by omega) (by omega)) ?_
   try simp (maxSteps:=9^9) only[go_sem]
   repeat refine AI ?_
   refine cw (l03Make_to (sgn_mulN q.num p.den) (by omega)) ?_
   try simp (maxSteps:=9^9) only[go_sem]
   repeat refine AI ?_
   refine cw (l03Add_fn (p.num * q.den) (q.num * p.den) (by omega) (by omega)) ?_
   try simp (maxSteps:=9^9) only[go_sem]
   repeat refine AI ?_
   refine cw (l02Mul_fn p.den q.den (by omega) (by omega)) ?_
   try simp (maxSteps:=9^9) only[go_sem]
   repeat refine AI ?_
   refine cw hl ?_
   try simp (maxSteps:=9^9) only[go_sem]
   all_goals repeat refine AI ?_
   all_goals first|kernel_rfl|omega|rfl
 ·have d1:decide (p.den=1)=false:=decide_eq_false h1
  refine fe Tryz.func205 Tryz.ntmps205 Tryz.results205 fun hwf=>?_
  try simp (maxSteps:=9^9) only[go_sem]
  repeat refine AI ?_
  refine cw (l04One_fn p.den) ?_
  try simp (maxSteps:=9^9) only[go_sem]
  try simp (maxSteps:=9^9) only[go_sem,d1]
  repeat refine AI ?_
  refine cw (l02Mul_fn p.num.natAbs q.den (by omega) (by omega)) ?_
  try simp (maxSteps:=9^9) only[go_sem]
  repeat refine AI ?_
  refine cw (l03Make_to (sgn_mulN p.num q.den) (by omega)) ?_
  try simp (maxSteps:=9^9) only[go_sem]
  repeat refine AI ?_
  refine cw (l02Mul_fn q.num.natAbs p.den (by omega) (by omega)) ?_
  try simp (maxSteps:=9^9) only[go_sem]
  repeat refine AI ?_
  refine cw (l03Make_to (sgn_mulN q.num p.den) (by omega)) ?_
  try simp (maxSteps:=9^9) only[go_sem]
  repeat refine AI ?_
  refine cw (l03Add_fn (p.num * q.den) (q.num * p.den) (by omega) (by omega)) ?_
  try simp (maxSteps:=9^9) only[go_sem]
  repeat refine AI ?_
  refine cw (l02Mul_fn p.den q.den (by omega) (by omega)) ?_
  try simp (maxSteps:=9^9) only[go_sem]
  repeat refine AI ?_
  refine cw hl ?_
  try simp (maxSteps:=9^9) only[go_sem]
  all_goals repeat refine AI ?_
  all_goals first|kernel_rfl|omega|rfl
theorem okR_oD {r:DR} (h:okR r=true):oD (rdO r)=r:=by
 obtain ⟨q,_,e1,e2⟩:=okR_t h
 rw [e2,e1]; rfl
attribute [go_sem] Prod.eta
abbrev DP:Type:=DR × DR
noncomputable def okPt (p:DP):Bool:=okR p.1 && okR p.2
theorem implIsValidPoint_fn (p:DP):Fn Tryz.prog 77 [⟨tPoint,p⟩] false [⟨.bool,okPt p⟩]:=by
 cases h:okR p.1
 ·refine fe Tryz.func77 Tryz.ntmps77 Tryz.results77 fun hwf=>?_
  try simp (maxSteps:=9^9) only[go_sem]
  repeat refine AI ?_
  refine cw (implRatOk_fn p.1) ?_
  try simp (maxSteps:=9^9) only[go_sem]
  try simp (maxSteps:=9^9) only[go_sem,h]
  repeat refine AI ?_
  simp [okPt,h]
 ·refine fe Tryz.func77 Tryz.ntmps77 Tryz.results77 fun hwf=>?_
  try simp (maxSteps:=9^9) only[go_sem]
  repeat refine AI ?_
  refine cw (implRatOk_fn p.1) ?_
  try simp (maxSteps:=9^9) only[go_sem]
  try simp (maxSteps:=9^9) only[go_sem,h]
  repeat refine AI ?_
  refine cw (implRatOk_fn p.2) ?_
  try simp (maxSteps:=9^9) only[go_sem]
  repeat refine AI ?_
  simp [okPt,h]
theorem specIsValidPoint_fn (p:DP):Fn Tryz.prog 117 [⟨tPoint,p⟩] false [⟨.bool,okPt p⟩]:=by
 cases h:okR p.1
 ·refine fe Tryz.func117 Tryz.ntmps117 Tryz.results117 fun hwf=>?_
  try simp (maxSteps:=9^9) only[go_sem]
  repeat refine AI ?_
  refine cw (specRatOk_fn p.1) ?_
  try simp (maxSteps:=9^9) only[go_sem]
  try simp (maxSteps:=9^9) only[go_sem,h]
  repeat refine AI ?_
  simp [okPt,h]
 ·refine fe Tryz.func117 Tryz.ntmps117 Tryz.results117 fun hwf=>?_
  try simp (maxSteps:=9^9) only[go_sem]
  repeat refine AI ?_
  refine cw (specRatOk_fn p.1) ?_
  try simp (maxSteps:=9^9) only[go_sem]
  try simp (maxSteps:=9^9) only[go_sem,h]
  repeat refine AI ?_
  refine cw (specRatOk_fn p.2) ?_
  try simp (maxSteps:=9^9) only[go_sem]
  repeat refine AI ?_
  simp [okPt,h]
theorem indexFunc_pt_fn (F:FuncId) (p:DP->Bool) (hF:∀ x:DP,Fn Tryz.prog F [⟨tPoint,x⟩] false [⟨.bool,p x⟩]) (l:List DP):Fn Tryz.prog 111 [⟨.slice tPoint,l⟩,⟨.cst (.fn F),()⟩] false [⟨.int,ixf (t:=tPoint) p l⟩]:=by
 refine fe Tryz.func111 Tryz.ntmps111 Tryz.results111 fun hwf=>?_
 have hl:l.length<=9223372036854775807:=(hwf ⟨.slice tPoint,l⟩ (by simp)).1
 try simp (maxSteps:=9^9) only[go_sem]
 refine LoopG.intro _ _ _ (fun i:Nat=>⟨[(0,.sl tPoint l),(1,.sc (.func (.func F) #[] #[])),(7,.sc (.int .i64 l.length)),(8,.sc (.int .i64 i))],[]⟩) (fun i=>∀ j < i,j < l.length->p (nth (t:=tPoint) l j)=false) (fun i=>l.length - i) 0 ?_ (fun j h=>by simp at h) ?_
 ·exact WK
 ·rintro i h2
  try simp (maxSteps:=9^9) only[go_sem]
  refine CondW_dec (fun h3=>?_) (fun h3=>?_)
  ·try simp (maxSteps:=9^9) only[go_sem]
   repeat refine AI ?_
   repeat refine AI ?_
   refine cw (hF (nth (t:=tPoint) l i)) ?_
   try simp (maxSteps:=9^9) only[go_sem]
   refine CondW_b (fun h4=>?_) (fun h4=>?_)
   ·try simp (maxSteps:=9^9) only[go_sem]
    exact (ixf_at (by omega) h4 (fun j hj=>h2 j hj (by omega))).symm
   ·try simp (maxSteps:=9^9) only[go_sem]
    repeat refine AI ?_
    refine LoopK.mk (i+1) ?_ (fun j hj hl=>?_) (by omega)
    ·exact WK
    ·by_cases hj2:j < i
     ·exact h2 j hj2 hl
     ·rw [show j=i by omega]; exact h4
  ·try simp (maxSteps:=9^9) only[go_sem]
   exact (ixf_none fun j hj=>h2 j (by omega) hj).symm
theorem containsFunc_pt_fn (F:FuncId) (p:DP->Bool) (hF:∀ x:DP,Fn Tryz.prog F [⟨tPoint,x⟩] false [⟨.bool,p x⟩]) (l:List DP):Fn Tryz.prog 75 [⟨.slice tPoint,l⟩,⟨.cst (.fn F),()⟩] false [⟨.bool,l.any p⟩]:=by
 refine fe Tryz.func75 Tryz.ntmps75 Tryz.results75 fun hwf=>?_
 try simp (maxSteps:=9^9) only[go_sem]
 repeat refine AI ?_
 refine cw (indexFunc_pt_fn F p hF l) ?_
 try simp (maxSteps:=9^9) only[go_sem]
 exact ixf_any
theorem arePointsC_fn (p:DP):Fn Tryz.prog 76 [⟨tPoint,p⟩] false [⟨.bool,!okPt p⟩]:=by
 refine fe Tryz.func76 Tryz.ntmps76 Tryz.results76 fun hwf=>?_
 try simp (maxSteps:=9^9) only[go_sem]
 repeat refine AI ?_
 refine cw (implIsValidPoint_fn p) ?_
 try simp (maxSteps:=9^9) only[go_sem]
theorem arePoints_fn (l:List DP):Fn Tryz.prog 47 [⟨.slice tPoint,l⟩] false [⟨.bool,!(l.any fun p=>!okPt p)⟩]:=by
 refine fe Tryz.func47 Tryz.ntmps47 Tryz.results47 fun hwf=>?_
 try simp (maxSteps:=9^9) only[go_sem]
 repeat refine AI ?_
 refine cw (containsFunc_pt_fn _ _ arePointsC_fn l) ?_
 try simp (maxSteps:=9^9) only[go_sem]
theorem arePoints2_fn (p q:DP):Fn Tryz.prog 47 [⟨.slice tPoint,[p,q]⟩] false [⟨.bool,okPt p && okPt q⟩]:=by
 have h:=arePoints_fn [p,q]
 have e:(!([p,q].any fun p=>!okPt p))=(okPt p && okPt q):=by simp
 rw [e] at h; exact h
theorem arePoints1_fn (p:DP):Fn Tryz.prog 47 [⟨.slice tPoint,[p]⟩] false [⟨.bool,okPt p⟩]:=by
 have h:=arePoints_fn [p]
 have e:(!([p].any fun p=>!okPt p))=okPt p:=by simp
 rw [e] at h; exact h
theorem subO_none_l (y:Option Rat):subO none y=none:=rfl
theorem subO_none_r (x:Option Rat):subO x none=none:=by cases x<;>rfl
theorem specRatSub_fn (r s:DR):Fn Tryz.prog 166 [⟨tRat,r⟩,⟨tRat,s⟩] true [⟨tRat,oD (subO (rdO r) (rdO s))⟩]:=by
 cases hr:okR r
 ·rw [okR_f hr,subO_none_l]
  refine fe Tryz.func166 Tryz.ntmps166 Tryz.results166 fun hwf=>?_
  try simp (maxSteps:=9^9) only[go_sem]
  repeat refine AI ?_
  refine cw (specRatOk_fn r) ?_
  try simp (maxSteps:=9^9) only[go_sem]
  try simp (maxSteps:=9^9) only[go_sem,hr]
 ·cases hs:okR s
  ·rw [okR_f hs,subO_none_r]
   refine fe Tryz.func166 Tryz.ntmps166 Tryz.results166 fun hwf=>?_
   try simp (maxSteps:=9^9) only[go_sem]
   repeat refine AI ?_
   refine cw (specRatOk_fn r) ?_
   try simp (maxSteps:=9^9) only[go_sem]
   try simp (maxSteps:=9^9) only[go_sem,hr]
   repeat refine AI ?_
   refine cw (specRatOk_fn s) ?_
   try simp (maxSteps:=9^9) only[go_sem]
   try simp (maxSteps:=9^9) only[go_sem,hs]
  ·obtain ⟨p,hp,rfl,e1⟩:=okR_t hr
   obtain ⟨q,hq,rfl,e2⟩:=okR_t hs
   rw [e1,e2]
   have hr':okR ((decide (p.num < 0),natL p.num.natAbs),natL p.den)=true:=hr
   have hs':okR ((decide (q.num < 0),natL q.num.natAbs),natL q.den)=true:=hs
   have e:subO (some p) (some q)=capR (p+-q):=rfl
   rw [e]
   refine fe Tryz.func166 Tryz.ntmps166 Tryz.results166 fun hwf=>?_
   try simp (maxSteps:=9^9) only[go_sem]
   repeat refine AI ?_
   refine cw (specRatOk_fn (ratD p)) ?_
   try simp (maxSteps:=9^9) only[go_sem]
   try simp (maxSteps:=9^9) only[go_sem,hr']
   repeat refine AI ?_
   refine cw (specRatOk_fn (ratD q)) ?_
   try simp (maxSteps:=9^9) only[go_sem]
   try simp (maxSteps:=9^9) only[go_sem,hs']
   repeat refine AI ?_
   refine cw (l04Neg_fn q hq) ?_
   try simp (maxSteps:=9^9) only[go_sem]
   repeat refine AI ?_
   refine cw (l04Add_fn p (-q) hp (small_neg hq)) ?_
   try simp (maxSteps:=9^9) only[go_sem]
   all_goals repeat refine AI ?_
   all_goals first|kernel_rfl|omega|rfl
abbrev DS:Type:=Int × DP
theorem isHeading_fn (n:Int):Fn Tryz.prog 46 [⟨.int,n⟩] false [⟨.bool,decide (0<=n/\n<=3)⟩]:=by
 refine fe Tryz.func46 Tryz.ntmps46 Tryz.results46 fun hwf=>?_
 try simp (maxSteps:=9^9) only[go_sem]
 repeat refine AI ?_
 refine cw (within_fn n 0 3) ?_
 try simp (maxSteps:=9^9) only[go_sem]
def nxH (h t:Int):Int:=if (0<=h/\h<=3)/\(t=1\/t=-1) then (h+t+4) % 4 else -1
theorem nxH_bad {h:Int} (t:Int) (hh:¬ (0<=h/\h<=3)):nxH h t=-1:=if_neg fun h=>hh h.1
theorem nxH_off (h:Int) {t:Int} (h1:¬ t=1) (h2:¬ t=-1):nxH h t=-1:=if_neg fun h=>h.2.elim h1 h2
theorem nxH_in {h t:Int} (hh:0<=h/\h<=3) (ht:t=1\/t=-1):nxH h t=(h+t+4) % 4:=if_pos ⟨hh,ht⟩
theorem implNextHeading_fn (h t:Int):Fn Tryz.prog 79 [⟨.int,h⟩,⟨.int,t⟩] false [⟨.int,nxH h t⟩]:=by
 have c1:=isHeading_fn h
 by_cases hh:0<=h/\h<=3
 ·rw [decide_eq_true hh] at c1
  by_cases h1:t=1
  ·subst h1
   rw [nxH_in hh (.inl rfl)]
   refine fe Tryz.func79 Tryz.ntmps79 Tryz.results79 fun hwf=>?_
   try simp (maxSteps:=9^9) only[go_sem]
   repeat refine AI ?_
   refine cw c1 ?_
   try simp (maxSteps:=9^9) only[go_sem]
   repeat refine AI ?_
   refine RemW.pos (by omega) (by omega) ?_
   try simp (maxSteps:=9^9) only[go_sem]
  ·by_cases h2:t=-1
   ·subst h2
    rw [nxH_in hh (.inr rfl)]
    refine fe Tryz.func79 Tryz.ntmps79 Tryz.results79 fun hwf=>?_
    try simp (maxSteps:=9^9) only[go_sem]
    repeat refine AI ?_
    refine cw c1 ?_
    try simp (maxSteps:=9^9) only[go_sem]
    repeat refine AI ?_
    refine RemW.pos (by omega) (by omega) ?_
    try simp (maxSteps:=9^9) only[go_sem]
   ·rw [nxH_off h h1 h2]
    refine fe Tryz.func79 Tryz.ntmps79 Tryz.results79 fun hwf=>?_
    try simp (maxSteps:=9^9) only[go_sem]
    repeat refine AI ?_
    refine cw c1 ?_
    try simp (maxSteps:=9^9) only[go_sem]
    try simp (maxSteps:=9^9) only[go_sem,h1,h2]
 ·rw [decide_eq_false hh] at c1
  rw [nxH_bad t hh]
  refine fe Tryz.func79 Tryz.ntmps79 Tryz.results79 fun hwf=>?_
  try simp (maxSteps:=9^9) only[go_sem]
  repeat refine AI ?_
  refine cw c1 ?_
  try simp (maxSteps:=9^9) only[go_sem]
theorem specNextHeading_fn (h t:Int):Fn Tryz.prog 97 [⟨.int,h⟩,⟨.int,t⟩] false [⟨.int,nxH h t⟩]:=by
 have c1:=l01In_fn h 0 3
 by_cases hh:0<=h/\h<=3
 ·rw [decide_eq_true hh] at c1
  by_cases h1:t=1
  ·subst h1
   rw [nxH_in hh (.inl rfl),show h+1+4=h+4+1 by omega]
   refine fe Tryz.func97 Tryz.ntmps97 Tryz.results97 fun hwf=>?_
   try simp (maxSteps:=9^9) only[go_sem]
   repeat refine AI ?_
   refine cw c1 ?_
   try simp (maxSteps:=9^9) only[go_sem]
   repeat refine AI ?_
   refine RemW.pos (by omega) (by omega) ?_
   try simp (maxSteps:=9^9) only[go_sem]
  ·by_cases h2:t=-1
   ·subst h2
    rw [nxH_in hh (.inr rfl),show h+-1+4=h+4+-1 by omega]
    refine fe Tryz.func97 Tryz.ntmps97 Tryz.results97 fun hwf=>?_
    try simp (maxSteps:=9^9) only[go_sem]
    repeat refine AI ?_
    refine cw c1 ?_
    try simp (maxSteps:=9^9) only[go_sem]
    repeat refine AI ?_
    refine RemW.pos (by omega) (by omega) ?_
    try simp (maxSteps:=9^9) only[go_sem]
   ·rw [nxH_off h h1 h2]
    refine fe Tryz.func97 Tryz.ntmps97 Tryz.results97 fun hwf=>?_
    try simp (maxSteps:=9^9) only[go_sem]
    repeat refine AI ?_
    refine cw c1 ?_
    try simp (maxSteps:=9^9) only[go_sem]
    try simp (maxSteps:=9^9) only[go_sem,h1,h2]
 ·rw [decide_eq_false hh] at c1
  rw [nxH_bad t hh]
  refine fe Tryz.func97 Tryz.ntmps97 Tryz.results97 fun hwf=>?_
  try simp (maxSteps:=9^9) only[go_sem]
  repeat refine AI ?_
  refine cw c1 ?_
  try simp (maxSteps:=9^9) only[go_sem]
def stp (p x:DS):DS:=if x.1=0 then (p.1,x.2) else if x.1=1\/x.1=-1 then (nxH p.1 x.1,p.2) else p
theorem stp_0 {p x:DS} (h:x.1=0):stp p x=(p.1,x.2):=if_pos h
theorem stp_t {p x:DS} (h:x.1=1\/x.1=-1):stp p x=(nxH p.1 x.1,p.2):=by
 have:¬ x.1=0:=by omega
 unfold stp; rw [if_neg this,if_pos h]
theorem stp_n {p x:DS} (h0:¬ x.1=0) (h1:¬ x.1=1) (h2:¬ x.1=-1):stp p x=p:=by
 unfold stp; rw [if_neg h0,if_neg (by omega)]
theorem stepped_fn (p x:DS):Fn Tryz.prog 49 [⟨tStep,p⟩,⟨tStep,x⟩] false [⟨tStep,stp p x⟩]:=by
 obtain ⟨h,p⟩:=p
 obtain ⟨t,q⟩:=x
 have c1:=implNextHeading_fn h t
 by_cases h0:t=0
 ·subst h0
  rw [stp_0 rfl]
  refine fe Tryz.func49 Tryz.ntmps49 Tryz.results49 fun hwf=>?_
  try simp (maxSteps:=9^9) only[go_sem]
 ·by_cases h1:t=1
  ·subst h1
   rw [stp_t (.inl rfl)]
   refine fe Tryz.func49 Tryz.ntmps49 Tryz.results49 fun hwf=>?_
   try simp (maxSteps:=9^9) only[go_sem]
   repeat refine AI ?_
   refine cw c1 ?_
   try simp (maxSteps:=9^9) only[go_sem]
  ·by_cases h2:t=-1
   ·subst h2
    rw [stp_t (.inr rfl)]
    refine fe Tryz.func49 Tryz.ntmps49 Tryz.results49 fun hwf=>?_
    try simp (maxSteps:=9^9) only[go_sem]
    repeat refine AI ?_
    refine cw c1 ?_
    try simp (maxSteps:=9^9) only[go_sem]
   ·rw [stp_n h0 h1 h2]
    refine fe Tryz.func49 Tryz.ntmps49 Tryz.results49 fun hwf=>?_
    try simp (maxSteps:=9^9) only[go_sem,h0,h1,h2]
theorem l22After_fn (p x:DS):Fn Tryz.prog 64 [⟨tStep,p⟩,⟨tStep,x⟩] false [⟨tStep,stp p x⟩]:=by
 obtain ⟨h,p⟩:=p
 obtain ⟨t,q⟩:=x
 have c1:=specNextHeading_fn h t
 by_cases h0:t=0
 ·subst h0
  rw [stp_0 rfl]
  refine fe Tryz.func64 Tryz.ntmps64 Tryz.results64 fun hwf=>?_
  try simp (maxSteps:=9^9) only[go_sem]
 ·by_cases h1:t=1
  ·subst h1
   rw [stp_t (.inl rfl)]
   refine fe Tryz.func64 Tryz.ntmps64 Tryz.results64 fun hwf=>?_
   try simp (maxSteps:=9^9) only[go_sem]
   repeat refine AI ?_
   refine cw c1 ?_
   try simp (maxSteps:=9^9) only[go_sem]
  ·by_cases h2:t=-1
   ·subst h2
    rw [stp_t (.inr rfl)]
    refine fe Tryz.func64 Tryz.ntmps64 Tryz.results64 fun hwf=>?_
    try simp (maxSteps:=9^9) only[go_sem]
    repeat refine AI ?_
    refine cw c1 ?_
    try simp (maxSteps:=9^9) only[go_sem]
   ·rw [stp_n h0 h1 h2]
    refine fe Tryz.func64 Tryz.ntmps64 Tryz.results64 fun hwf=>?_
    try simp (maxSteps:=9^9) only[go_sem,h0,h1,h2]
abbrev DV:Type:=Int × Int
def inB (k:Int) (v:DV):Bool:=decide (-k<=v.1/\v.1<=k) && decide (-k<=v.2/\v.2<=k)
def okV (v:DV):Bool:=inB 1000 v
theorem okV_b {v:DV} (h:okV v=true):-1000<=v.1/\v.1<=1000/\-1000<=v.2/\v.2<=1000:=by
 unfold okV inB at h
 rw [Bool.and_eq_true,decide_eq_true_iff,decide_eq_true_iff] at h
 omega
theorem isVec_fn (v:DV):Fn Tryz.prog 145 [⟨tVec,v⟩] false [⟨.bool,okV v⟩]:=by
 have c1:=within_fn v.1 (-1000) 1000
 have c2:=within_fn v.2 (-1000) 1000
 unfold okV inB
 cases h:decide (-1000<=v.1/\v.1<=1000)<;>rw [h] at c1
 ·refine fe Tryz.func145 Tryz.ntmps145 Tryz.results145 fun hwf=>?_
  try simp (maxSteps:=9^9) only[go_sem]
  repeat refine AI ?_
  refine cw c1 ?_
  try simp (maxSteps:=9^9) only[go_sem]
 ·refine fe Tryz.func145 Tryz.ntmps145 Tryz.results145 fun hwf=>?_
  try simp (maxSteps:=9^9) only[go_sem]
  repeat refine AI ?_
  refine cw c1 ?_
  try simp (maxSteps:=9^9) only[go_sem]
  repeat refine AI ?_
  refine cw c2 ?_
  try simp (maxSteps:=9^9) only[go_sem]
theorem IsValidVec_fn (v:DV):Fn Tryz.prog 133 [⟨tVec,v⟩] false [⟨.bool,okV v⟩]:=by
 have c1:=l01In_fn v.1 (-1000) 1000
 have c2:=l01In_fn v.2 (-1000) 1000
 unfold okV inB
 cases h:decide (-1000<=v.1/\v.1<=1000)<;>rw [h] at c1
 ·refine fe Tryz.func133 Tryz.ntmps133 Tryz.results133 fun hwf=>?_
  try simp (maxSteps:=9^9) only[go_sem]
  repeat refine AI ?_
  refine cw c1 ?_
  try simp (maxSteps:=9^9) only[go_sem]
 ·refine fe Tryz.func133 Tryz.ntmps133 Tryz.results133 fun hwf=>?_
  try simp (maxSteps:=9^9) only[go_sem]
  repeat refine AI ?_
  refine cw c1 ?_
  try simp (maxSteps:=9^9) only[go_sem]
  repeat refine AI ?_
  refine cw c2 ?_
  try simp (maxSteps:=9^9) only[go_sem]
theorem mul_bd {x y:Int} (h1:-2000<=x) (h2:x<=2000) (h3:-2000<=y) (h4:y<=2000):-4000000<=x * y/\x * y<=4000000:=by
 have e1:0<=(2000 - x) * (2000 - y):=Int.mul_nonneg (by omega) (by omega)
 have e2:0<=(2000+x) * (2000+y):=Int.mul_nonneg (by omega) (by omega)
 have e3:0<=(2000 - x) * (2000+y):=Int.mul_nonneg (by omega) (by omega)
 have e4:0<=(2000+x) * (2000 - y):=Int.mul_nonneg (by omega) (by omega)
 simp only [Int.sub_mul,Int.add_mul,Int.mul_sub,Int.mul_add] at e1 e2 e3 e4
 omega
def trn (a b c:DV):Int:=(b.1 - a.1) * (c.2 - a.2) - (b.2 - a.2) * (c.1 - a.1)
theorem turn_fn (a b c:DV) (ha:okV a=true) (hb:okV b=true) (hc:okV c=true):Fn Tryz.prog 108 [⟨tVec,a⟩,⟨tVec,b⟩,⟨tVec,c⟩] false [⟨.int,trn a b c⟩]:=by
 have ha:=okV_b ha; have hb:=okV_b hb; have hc:=okV_b hc
 have m1:=mul_bd (x:=b.1 - a.1) (y:=c.2 - a.2) (by omega) (by omega) (by omega) (by omega)
 have m2:=mul_bd (x:=b.2 - a.2) (y:=c.1 - a.1) (by omega) (by omega) (by omega) (by omega)
 unfold trn
 refine fe Tryz.func108 Tryz.ntmps108 Tryz.results108 fun hwf=>?_
 try simp (maxSteps:=9^9) only[go_sem]
 all_goals repeat refine AI ?_
 all_goals first|kernel_rfl|omega|rfl
def trq (a b c:DV):Int:=if okV a && okV b && okV c then trn a b c else 0
theorem Turn_fn (a b c:DV):Fn Tryz.prog 136 [⟨tVec,a⟩,⟨tVec,b⟩,⟨tVec,c⟩] false [⟨.int,trq a b c⟩]:=by
 have c1:=IsValidVec_fn a
 have c2:=IsValidVec_fn b
 have c3:=IsValidVec_fn c
 unfold trq
 cases ha:okV a<;>rw [ha] at c1
 ·refine fe Tryz.func136 Tryz.ntmps136 Tryz.results136 fun hwf=>?_
  try simp (maxSteps:=9^9) only[go_sem]
  repeat refine AI ?_
  refine cw c1 ?_
  try simp (maxSteps:=9^9) only[go_sem]
 ·cases hb:okV b<;>rw [hb] at c2
  ·refine fe Tryz.func136 Tryz.ntmps136 Tryz.results136 fun hwf=>?_
   try simp (maxSteps:=9^9) only[go_sem]
   repeat refine AI ?_
   refine cw c1 ?_
   try simp (maxSteps:=9^9) only[go_sem]
   repeat refine AI ?_
   refine cw c2 ?_
   try simp (maxSteps:=9^9) only[go_sem]
  ·cases hc:okV c<;>rw [hc] at c3
   ·refine fe Tryz.func136 Tryz.ntmps136 Tryz.results136 fun hwf=>?_
    try simp (maxSteps:=9^9) only[go_sem]
    repeat refine AI ?_
    refine cw c1 ?_
    try simp (maxSteps:=9^9) only[go_sem]
    repeat refine AI ?_
    refine cw c2 ?_
    try simp (maxSteps:=9^9) only[go_sem]
    repeat refine AI ?_
    refine cw c3 ?_
    try simp (maxSteps:=9^9) only[go_sem]
   ·have ha:=okV_b ha; have hb:=okV_b hb; have hc:=okV_b hc
    have m1:=mul_bd (x:=b.1 - a.1) (y:=c.2 - a.2) (by omega) (by omega) (by omega) (by omega)
    have m2:=mul_bd (x:=b.2 - a.2) (y:=c.1 - a.1) (by omega) (by omega) (by omega) (by omega)
    unfold trn
    refine fe Tryz.func136 Tryz.ntmps136 Tryz.results136 fun hwf=>?_
    try simp (maxSteps:=9^9) only[go_sem]
    repeat refine AI ?_
    refine cw c1 ?_
    try simp (maxSteps:=9^9) only[go_sem]
    repeat refine AI ?_
    refine cw c2 ?_
    try simp (maxSteps:=9^9) only[go_sem]
    repeat refine AI ?_
    refine cw c3 ?_
    try simp (maxSteps:=9^9) only[go_sem]
    all_goals repeat refine AI ?_
    all_goals first|kernel_rfl|omega|rfl
theorem indexFunc_vec_fn (F:FuncId) (p:DV->Bool) (hF:∀ x:DV,Fn Tryz.prog F [⟨tVec,x⟩] false [⟨.bool,p x⟩]) (l:List DV):Fn Tryz.prog 151 [⟨.slice tVec,l⟩,⟨.cst (.fn F),()⟩] false [⟨.int,ixf (t:=tVec) p l⟩]:=by
 refine fe Tryz.func151 Tryz.ntmps151 Tryz.results151 fun hwf=>?_
 have hl:l.length<=9223372036854775807:=(hwf ⟨.slice tVec,l⟩ (by simp)).1
 try simp (maxSteps:=9^9) only[go_sem]
 refine LoopG.intro _ _ _ (fun i:Nat=>⟨[(0,.sl tVec l),(1,.sc (.func (.func F) #[] #[])),(7,.sc (.int .i64 l.length)),(8,.sc (.int .i64 i))],[]⟩) (fun i=>∀ j < i,j < l.length->p (nth (t:=tVec) l j)=false) (fun i=>l.length - i) 0 ?_ (fun j h=>by simp at h) ?_
 ·exact WK
 ·rintro i h2
  try simp (maxSteps:=9^9) only[go_sem]
  refine CondW_dec (fun h3=>?_) (fun h3=>?_)
  ·try simp (maxSteps:=9^9) only[go_sem]
   repeat refine AI ?_
   repeat refine AI ?_
   refine cw (hF (nth (t:=tVec) l i)) ?_
   try simp (maxSteps:=9^9) only[go_sem]
   refine CondW_b (fun h4=>?_) (fun h4=>?_)
   ·try simp (maxSteps:=9^9) only[go_sem]
    exact (ixf_at (by omega) h4 (fun j hj=>h2 j hj (by omega))).symm
   ·try simp (maxSteps:=9^9) only[go_sem]
    repeat refine AI ?_
    refine LoopK.mk (i+1) ?_ (fun j hj hl=>?_) (by omega)
    ·exact WK
    ·by_cases hj2:j < i
     ·exact h2 j hj2 hl
     ·rw [show j=i by omega]; exact h4
  ·try simp (maxSteps:=9^9) only[go_sem]
   exact (ixf_none fun j hj=>h2 j (by omega) hj).symm
theorem containsFunc_vec_fn (F:FuncId) (p:DV->Bool) (hF:∀ x:DV,Fn Tryz.prog F [⟨tVec,x⟩] false [⟨.bool,p x⟩]) (l:List DV):Fn Tryz.prog 109 [⟨.slice tVec,l⟩,⟨.cst (.fn F),()⟩] false [⟨.bool,l.any p⟩]:=by
 refine fe Tryz.func109 Tryz.ntmps109 Tryz.results109 fun hwf=>?_
 try simp (maxSteps:=9^9) only[go_sem]
 repeat refine AI ?_
 refine cw (indexFunc_vec_fn F p hF l) ?_
 try simp (maxSteps:=9^9) only[go_sem]
 exact ixf_any
theorem areVecsC_fn (v:DV):Fn Tryz.prog 144 [⟨tVec,v⟩] false [⟨.bool,!okV v⟩]:=by
 refine fe Tryz.func144 Tryz.ntmps144 Tryz.results144 fun hwf=>?_
 try simp (maxSteps:=9^9) only[go_sem]
 repeat refine AI ?_
 refine cw (isVec_fn v) ?_
 try simp (maxSteps:=9^9) only[go_sem]
theorem areVecs_fn (l:List DV):Fn Tryz.prog 103 [⟨.slice tVec,l⟩] false [⟨.bool,!(l.any fun v=>!okV v)⟩]:=by
 refine fe Tryz.func103 Tryz.ntmps103 Tryz.results103 fun hwf=>?_
 try simp (maxSteps:=9^9) only[go_sem]
 repeat refine AI ?_
 refine cw (containsFunc_vec_fn _ _ areVecsC_fn l) ?_
 try simp (maxSteps:=9^9) only[go_sem]
def nxt (n i:Nat):Int:=((i:Int)+1) % (n:Int)
def cornOK (l:List DV) (i k:Nat):Prop:=¬ (k:Int)=i->¬ (k:Int)=nxt l.length i->0 < trn (nth (t:=tVec) l i) (nth (t:=tVec) l (nxt l.length i).toNat) (nth (t:=tVec) l k)
def polyP (l:List DV):Prop:=(3<=(l.length:Int)/\(l.length:Int)<=16)/\(∀ v ∈ l,okV v=true)/\∀ i k,i < l.length->k < l.length->cornOK l i k
noncomputable def polyB (l:List DV):Bool:=@decide (polyP l) (Classical.propDecidable _)
theorem polyB_t {l:List DV} (h:polyP l):polyB l=true:=@decide_eq_true _ (Classical.propDecidable _) h
theorem polyB_f {l:List DV} (h:¬ polyP l):polyB l=false:=@decide_eq_false _ (Classical.propDecidable _) h
theorem any_okV {l:List DV} (h:(l.any fun v=>!okV v)=false):∀ v ∈ l,okV v=true:=by
 intro v hv
 rw [List.any_eq_false] at h
 simpa using h v hv
theorem nxt_rng {n i:Nat} (h:0 < n):0<=nxt n i/\nxt n i < n:=⟨Int.emod_nonneg _ (by omega),Int.emod_lt_of_pos _ (by omega)⟩
theorem nth_mem {l:List DV} {i:Nat} (h:i < l.length):nth (t:=tVec) l i ∈ l:=by rw [nth_lt h]; exact List.getElem_mem h
theorem implIsPolygon_fn (l:List DV):Fn Tryz.prog 73 [⟨.slice tVec,l⟩] false [⟨.bool,polyB l⟩]:=by
 have c1:=within_fn l.length 3 16
 have c2:=areVecs_fn l
 by_cases h1:3<=(l.length:Int)/\(l.length:Int)<=16
 ·rw [decide_eq_true h1] at c1
  cases h2:l.any fun v=>!okV v<;>rw [h2] at c2
  ·have hok:=any_okV h2
   have hN:0 < l.length:=by omega
   refine fe Tryz.func73 Tryz.ntmps73 Tryz.results73 fun hwf=>?_
   try simp (maxSteps:=9^9) only[go_sem]
   repeat refine AI ?_
   refine cw c1 ?_
   try simp (maxSteps:=9^9) only[go_sem]
   repeat refine AI ?_
   refine cw c2 ?_
   try simp (maxSteps:=9^9) only[go_sem]
   refine LoopG.intro _ _ _ (fun i:Nat=>⟨[(0,.sl tVec l),(3,.sc (.int .i64 l.length)),(19,.sl tVec l),(20,.sc (.int .i64 l.length)),(21,.sc (.int .i64 i))],[]⟩) (fun i=>∀ i' k,i' < i->i' < l.length->k < l.length->cornOK l i' k) (fun i=>l.length - i) 0 ?_ (fun i' k h=>absurd h (Nat.not_lt_zero _)) ?_
   ·exact WK
   ·rintro i hi
    have hr:=nxt_rng (i:=i) hN
    unfold nxt at hr
    try simp (maxSteps:=9^9) only[go_sem]
    refine CondW_dec (fun hA=>?_) (fun hA=>?_)
    ·try simp (maxSteps:=9^9) only[go_sem]
     repeat refine AI ?_
     refine RemW.pos (by omega) (by omega) ?_
     try simp (maxSteps:=9^9) only[go_sem]
     repeat refine AI ?_
     refine LoopG.intro _ _ _ (fun k:Nat=>⟨[(0,.sl tVec l),(3,.sc (.int .i64 l.length)),(19,.sl tVec l),(20,.sc (.int .i64 l.length)),(21,.sc (.int .i64 i)),(4,.sc (.int .i64 i)),(5,.ptr 0 0),(6,.ptr 1 0),(33,.sl tVec l),(34,.sc (.int .i64 l.length)),(35,.sc (.int .i64 k))],[(1,.box [.sc (.int .i64 (nth (t:=tVec) l (nxt l.length i).toNat).1),.sc (.int .i64 (nth (t:=tVec) l (nxt l.length i).toNat).2)]),(0,.box [.sc (.int .i64 (nth (t:=tVec) l i).1),.sc (.int .i64 (nth (t:=tVec) l i).2)])]⟩) (fun k=>∀ k',k' < k->k' < l.length->cornOK l i k') (fun k=>l.length - k) 0 ?_ (fun k h=>absurd h (Nat.not_lt_zero _)) ?_
     ·exact WK
     ·rintro k hk
      have hv:=turn_fn (nth (t:=tVec) l i) (nth (t:=tVec) l (nxt l.length i).toNat) (nth (t:=tVec) l k)
      have hi3:i < l.length:=by omega
      have oi:=hok _ (nth_mem hi3)
      have on:=hok _ (nth_mem (l:=l) (i:=(nxt l.length i).toNat) (by unfold nxt; omega))
      try simp (maxSteps:=9^9) only[go_sem]
      refine CondW_dec (fun hB=>?_) (fun hB=>?_)
      ·have hv:=hv oi on (hok _ (nth_mem (by omega)))
       have hgo:cornOK l i k->∀ k',k' < k+1->k' < l.length->cornOK l i k':=fun h k' h1 h2=>by
        by_cases h3:k' < k
        ·exact hk k' h3 h2
        ·rw [show k'=k by omega]; exact h
       by_cases e1:(k:Int)=i
       ·have d1:=decide_eq_true e1
        try simp (maxSteps:=9^9) only[go_sem,d1]
        repeat refine AI ?_
        refine LoopK.mk (k+1) ?_ (hgo fun h=>absurd e1 h) (by omega)
        exact WK
       ·have d1:=decide_eq_false e1
        by_cases e2:(k:Int)=((i:Int)+1) % (l.length:Int)
        ·have d2:=decide_eq_true e2
         try simp (maxSteps:=9^9) only[go_sem,d1]
         repeat refine AI ?_
         refine RemW.pos (by omega) (by omega) ?_
         try simp (maxSteps:=9^9) only[go_sem,d2]
         repeat refine AI ?_
         refine LoopK.mk (k+1) ?_ (hgo fun _ h=>absurd e2 h) (by omega)
         exact WK
        ·have d2:=decide_eq_false e2
         try simp (maxSteps:=9^9) only[go_sem,d1]
         repeat refine AI ?_
         refine RemW.pos (by omega) (by omega) ?_
         try simp (maxSteps:=9^9) only[go_sem,d2]
         repeat refine AI ?_
         refine cw hv ?_
         try simp (maxSteps:=9^9) only[go_sem]
         refine CondW_dec (fun e3=>?_) (fun e3=>?_)
         ·have:¬ polyP l:=fun h=>by
           have:=h.2.2 i k (by omega) (by omega) e1 e2
           omega
          rw [polyB_f this]
          try simp (maxSteps:=9^9) only[go_sem]
         ·try simp (maxSteps:=9^9) only[go_sem]
          repeat refine AI ?_
          refine LoopK.mk (k+1) ?_ (hgo fun _ _=>by omega) (by omega)
          exact WK
      ·try simp (maxSteps:=9^9) only[go_sem]
       repeat refine AI ?_
       refine LoopK.mk (i+1) ?_ (fun i' k' h1 h2 h3=>?_) (by omega)
       ·exact WK
       ·by_cases h4:i' < i
        ·exact hi i' k' h4 h2 h3
        ·rw [show i'=i by omega]; exact hk k' (by omega) h3
    ·have:polyP l:=⟨h1,hok,fun i' k h3 h4=>hi i' k (by omega) h3 h4⟩
     rw [polyB_t this]
     try simp (maxSteps:=9^9) only[go_sem]
  ·have:¬ polyP l:=fun h=>by
    have:=h.2.1
    rw [List.any_eq_true] at h2
    obtain ⟨v,hv,h3⟩:=h2
    rw [this v hv] at h3
    cases h3
   rw [polyB_f this]
   refine fe Tryz.func73 Tryz.ntmps73 Tryz.results73 fun hwf=>?_
   try simp (maxSteps:=9^9) only[go_sem]
   repeat refine AI ?_
   refine cw c1 ?_
   try simp (maxSteps:=9^9) only[go_sem]
   repeat refine AI ?_
   refine cw c2 ?_
   try simp (maxSteps:=9^9) only[go_sem]
 ·rw [decide_eq_false h1] at c1
  have:¬ polyP l:=fun h=>h1 h.1
  rw [polyB_f this]
  refine fe Tryz.func73 Tryz.ntmps73 Tryz.results73 fun hwf=>?_
  try simp (maxSteps:=9^9) only[go_sem]
  repeat refine AI ?_
  refine cw c1 ?_
  try simp (maxSteps:=9^9) only[go_sem]
def specOK (l:List DV) (i k:Nat):Prop:=okV (nth (t:=tVec) l k)=true/\(¬ (k:Int)=i->¬ (k:Int)=nxt l.length i->0 < trq (nth (t:=tVec) l i) (nth (t:=tVec) l (nxt l.length i).toNat) (nth (t:=tVec) l k))
theorem specOK_of {l:List DV} (h:polyP l) {i k:Nat} (hi:i < l.length) (hk:k < l.length):specOK l i k:=by
 have hr:=nxt_rng (n:=l.length) (i:=i) (by omega)
 refine ⟨h.2.1 _ (nth_mem hk),fun h1 h2=>?_⟩
 have h3:=h.2.2 i k hi hk h1 h2
 unfold trq
 rw [h.2.1 _ (nth_mem hi),h.2.1 _ (nth_mem hk),h.2.1 _ (nth_mem (i:=(nxt l.length i).toNat) (by omega))]
 exact h3
theorem polyP_of {l:List DV} (h0:3<=(l.length:Int)/\(l.length:Int)<=16) (h:∀ i k,i < l.length->k < l.length->specOK l i k):polyP l:=by
 have hv:∀ k,k < l.length->okV (nth (t:=tVec) l k)=true:=fun k hk=>(h 0 k (by omega) hk).1
 refine ⟨h0,fun v hm=>?_,fun i k hi hk h1 h2=>?_⟩
 ·obtain ⟨k,hk,rfl⟩:=List.getElem_of_mem hm
  have:=hv k hk
  rw [nth_lt hk] at this
  exact this
 ·have hr:=nxt_rng (n:=l.length) (i:=i) (by omega)
  have h3:=(h i k hi hk).2 h1 h2
  unfold trq at h3
  rw [hv i hi,hv k hk,hv (nxt l.length i).toNat (by omega)] at h3
  exact h3
theorem specIsPolygon_fn (l:List DV):Fn Tryz.prog 95 [⟨.slice tVec,l⟩] false [⟨.bool,polyB l⟩]:=by
 have c1:=l01In_fn l.length 3 16
 by_cases h1:3<=(l.length:Int)/\(l.length:Int)<=16
 ·rw [decide_eq_true h1] at c1
  have hN:0 < l.length:=by omega
  refine fe Tryz.func95 Tryz.ntmps95 Tryz.results95 fun hwf=>?_
  try simp (maxSteps:=9^9) only[go_sem]
  repeat refine AI ?_
  refine cw c1 ?_
  try simp (maxSteps:=9^9) only[go_sem]
  refine LoopG.intro _ _ _ (fun i:Nat=>⟨[(0,.sl tVec l),(3,.sc (.int .i64 l.length)),(14,.sl tVec l),(15,.sc (.int .i64 l.length)),(16,.sc (.int .i64 i))],[]⟩) (fun i=>∀ i' k,i' < i->i' < l.length->k < l.length->specOK l i' k) (fun i=>l.length - i) 0 ?_ (fun i' k h=>absurd h (Nat.not_lt_zero _)) ?_
  ·exact WK
  ·rintro i hi
   have hr:=nxt_rng (i:=i) hN
   unfold nxt at hr
   try simp (maxSteps:=9^9) only[go_sem]
   refine CondW_dec (fun hA=>?_) (fun hA=>?_)
   ·try simp (maxSteps:=9^9) only[go_sem]
    repeat refine AI ?_
    refine RemW.pos (by omega) (by omega) ?_
    try simp (maxSteps:=9^9) only[go_sem]
    repeat refine AI ?_
    refine LoopG.intro _ _ _ (fun k:Nat=>⟨[(0,.sl tVec l),(3,.sc (.int .i64 l.length)),(14,.sl tVec l),(15,.sc (.int .i64 l.length)),(16,.sc (.int .i64 i)),(4,.sc (.int .i64 i)),(5,.ptr 0 0),(6,.ptr 1 0),(28,.sl tVec l),(29,.sc (.int .i64 l.length)),(30,.sc (.int .i64 k))],[(1,.box [.sc (.int .i64 (nth (t:=tVec) l (nxt l.length i).toNat).1),.sc (.int .i64 (nth (t:=tVec) l (nxt l.length i).toNat).2)]),(0,.box [.sc (.int .i64 (nth (t:=tVec) l i).1),.sc (.int .i64 (nth (t:=tVec) l i).2)])]⟩) (fun k=>∀ k',k' < k->k' < l.length->specOK l i k') (fun k=>l.length - k) 0 ?_ (fun k h=>absurd h (Nat.not_lt_zero _)) ?_
    ·exact WK
    ·rintro k hk
     have hv:=Turn_fn (nth (t:=tVec) l i) (nth (t:=tVec) l (nxt l.length i).toNat) (nth (t:=tVec) l k)
     have hw:=IsValidVec_fn (nth (t:=tVec) l k)
     try simp (maxSteps:=9^9) only[go_sem]
     refine CondW_dec (fun hB=>?_) (fun hB=>?_)
     ·have hgo:specOK l i k->∀ k',k' < k+1->k' < l.length->specOK l i k':=fun h k' h1 h2=>by
       by_cases h3:k' < k
       ·exact hk k' h3 h2
       ·rw [show k'=k by omega]; exact h
      cases e0:okV (nth (t:=tVec) l k)<;>rw [e0] at hw
      ·have:¬ polyP l:=fun h=>by
        have:=h.2.1 _ (nth_mem (l:=l) (i:=k) (by omega))
        rw [e0] at this; cases this
       rw [polyB_f this]
       try simp (maxSteps:=9^9) only[go_sem]
       repeat refine AI ?_
       refine cw hw ?_
       try simp (maxSteps:=9^9) only[go_sem]
      ·by_cases e1:(k:Int)=i
       ·have d1:=decide_eq_true e1
        try simp (maxSteps:=9^9) only[go_sem]
        repeat refine AI ?_
        refine cw hw ?_
        try simp (maxSteps:=9^9) only[go_sem]
        try simp (maxSteps:=9^9) only[go_sem,d1]
        repeat refine AI ?_
        refine LoopK.mk (k+1) ?_ (hgo ⟨e0,fun h=>absurd e1 h⟩) (by omega)
        exact WK
       ·have d1:=decide_eq_false e1
        by_cases e2:(k:Int)=((i:Int)+1) % (l.length:Int)
        ·have d2:=decide_eq_true e2
         try simp (maxSteps:=9^9) only[go_sem]
         repeat refine AI ?_
         refine cw hw ?_
         try simp (maxSteps:=9^9) only[go_sem]
         try simp (maxSteps:=9^9) only[go_sem,d1]
         repeat refine AI ?_
         refine RemW.pos (by omega) (by omega) ?_
         try simp (maxSteps:=9^9) only[go_sem,d2]
         repeat refine AI ?_
         refine LoopK.mk (k+1) ?_ (hgo ⟨e0,fun _ h=>absurd e2 h⟩) (by omega)
         exact WK
        ·have d2:=decide_eq_false e2
         try simp (maxSteps:=9^9) only[go_sem]
         repeat refine AI ?_
         refine cw hw ?_
         try simp (maxSteps:=9^9) only[go_sem]
         try simp (maxSteps:=9^9) only[go_sem,d1]
         repeat refine AI ?_
         refine RemW.pos (by omega) (by omega) ?_
         try simp (maxSteps:=9^9) only[go_sem,d2]
         repeat refine AI ?_
         refine cw hv ?_
         try simp (maxSteps:=9^9) only[go_sem]
         refine CondW_dec (fun e3=>?_) (fun e3=>?_)
         ·have:¬ polyP l:=fun h=>by
           have:=(specOK_of h (i:=i) (k:=k) (by omega) (by omega)).2 e1 e2
           omega
          rw [polyB_f this]
          try simp (maxSteps:=9^9) only[go_sem]
         ·try simp (maxSteps:=9^9) only[go_sem]
          repeat refine AI ?_
          refine LoopK.mk (k+1) ?_ (hgo ⟨e0,fun _ _=>by omega⟩) (by omega)
          exact WK
     ·try simp (maxSteps:=9^9) only[go_sem]
      repeat refine AI ?_
      refine LoopK.mk (i+1) ?_ (fun i' k' h1 h2 h3=>?_) (by omega)
      ·exact WK
      ·by_cases h4:i' < i
       ·exact hi i' k' h4 h2 h3
       ·rw [show i'=i by omega]; exact hk k' (by omega) h3
   ·have:polyP l:=polyP_of h1 fun i' k h3 h4=>hi i' k (by omega) h3 h4
    rw [polyB_t this]
    try simp (maxSteps:=9^9) only[go_sem]
 ·rw [decide_eq_false h1] at c1
  have:¬ polyP l:=fun h=>h1 h.1
  rw [polyB_f this]
  refine fe Tryz.func95 Tryz.ntmps95 Tryz.results95 fun hwf=>?_
  try simp (maxSteps:=9^9) only[go_sem]
  repeat refine AI ?_
  refine cw c1 ?_
  try simp (maxSteps:=9^9) only[go_sem]
def ltV (a b:DV):Prop:=a.1 < b.1\/a.1=b.1/\a.2 < b.2
instance (a b:DV):Decidable (ltV a b):=by unfold ltV; infer_instance
theorem ltV_irrefl (a:DV):¬ ltV a a:=by unfold ltV; omega
theorem ltV_trans {a b c:DV} (h1:ltV a b) (h2:ltV b c):ltV a c:=by unfold ltV at *; omega
theorem ltV_tri (a b:DV):ltV a b\/a=b\/ltV b a:=by
 obtain ⟨a1,a2⟩:=a
 obtain ⟨b1,b2⟩:=b
 unfold ltV
 simp only [Prod.mk.injEq]
 omega
theorem ltV_asymm {a b:DV} (h:ltV a b):¬ ltV b a:=fun h2=>ltV_irrefl _ (ltV_trans h h2)
theorem srt_unique:∀ {l m:List DV},l.Pairwise ltV->m.Pairwise ltV->(∀ x,x ∈ l ↔ x ∈ m)->l=m
 | [],[],_,_,_=>rfl
 | [],b :: m,_,_,h=>absurd ((h b).2 List.mem_cons_self) (by simp)
 | a :: l,[],_,_,h=>absurd ((h a).1 List.mem_cons_self) (by simp)
 | a :: l,b :: m,h1,h2,h=>by
  rw [List.pairwise_cons] at h1 h2
  have hab:a=b:=by
   rcases List.mem_cons.1 ((h a).1 List.mem_cons_self) with e|e
   ·exact e
   ·rcases List.mem_cons.1 ((h b).2 List.mem_cons_self) with e2|e2
    ·exact e2.symm
    ·exact absurd (ltV_trans (h1.1 b e2) (h2.1 a e)) (ltV_irrefl _)
  subst hab
  refine congrArg (a :: ·) (srt_unique h1.2 h2.2 fun x=>⟨fun hx=>?_,fun hx=>?_⟩)
  ·rcases List.mem_cons.1 ((h x).1 (List.mem_cons_of_mem _ hx)) with e|e
   ·subst e; exact absurd (h1.1 _ hx) (ltV_irrefl _)
   ·exact e
  ·rcases List.mem_cons.1 ((h x).2 (List.mem_cons_of_mem _ hx)) with e|e
   ·subst e; exact absurd (h2.1 _ hx) (ltV_irrefl _)
   ·exact e
def cmpD:List DV->List DV
 | []=>[]
 | [a]=>[a]
 | a :: b :: l=>if a=b then cmpD (b :: l) else a :: cmpD (b :: l)
theorem cmpD_mem:∀ {l:List DV} {x:DV},x ∈ cmpD l ↔ x ∈ l
 | [],x=>by simp [cmpD]
 | [a],x=>by simp [cmpD]
 | a :: b :: l,x=>by
  have ih:=cmpD_mem (l:=b :: l) (x:=x)
  unfold cmpD
  split
  ·rename_i h; subst h; rw [ih]; simp
  ·rw [List.mem_cons,ih,List.mem_cons,List.mem_cons,List.mem_cons]
theorem cmpD_len:∀ {l:List DV},(cmpD l).length<=l.length
 | []=>by simp [cmpD]
 | [a]=>by simp [cmpD]
 | a :: b :: l=>by
  have ih:=cmpD_len (l:=b :: l)
  unfold cmpD
  split<;>simp only [List.length_cons] at ih ⊢<;>omega
theorem cmpD_srt:∀ {l:List DV},l.Pairwise (fun a b=>¬ ltV b a)->(cmpD l).Pairwise ltV
 | [],_=>by simp [cmpD]
 | [a],_=>by simp [cmpD]
 | a :: b :: l,h=>by
  rw [List.pairwise_cons] at h
  have ih:=cmpD_srt h.2
  unfold cmpD
  split
  ·exact ih
  ·rename_i hne
   refine List.pairwise_cons.2 ⟨fun x hx=>?_,ih⟩
   rw [cmpD_mem] at hx
   have hb:¬ ltV b a:=h.1 b List.mem_cons_self
   have hab:ltV a b:=by
    rcases ltV_tri a b with h|h|h
    ·exact h
    ·exact absurd h hne
    ·exact absurd h hb
   rcases List.mem_cons.1 hx with rfl|hx
   ·exact hab
   ·rcases ltV_tri b x with h3|h3|h3
    ·exact ltV_trans hab h3
    ·exact h3 ▸ hab
    ·exact absurd h3 ((List.pairwise_cons.1 h.2).1 x hx)
def cfV (a b:DV):Int:=if a.1=b.1 then a.2 - b.2 else a.1 - b.1
theorem cfV_lt (a b:DV):cfV a b < 0 ↔ ltV a b:=by
 unfold cfV ltV
 split<;>omega
def leB (a b:DV):Bool:=!decide (cfV b a < 0)
theorem leB_iff (a b:DV):leB a b=true ↔ ¬ ltV b a:=by
 unfold leB
 rw [Bool.not_eq_true',decide_eq_false_iff_not,cfV_lt]
def srtD (l:List DV):List DV:=cmpD (l.mergeSort leB)
theorem srtD_mem {l:List DV} {x:DV}:x ∈ srtD l ↔ x ∈ l:=by
 unfold srtD
 rw [cmpD_mem,List.mem_mergeSort]
theorem srtD_srt (l:List DV):(srtD l).Pairwise ltV:=by
 refine cmpD_srt ?_
 have h:=List.pairwise_mergeSort (le:=leB) (fun a b c h1 h2=>by
  rw [leB_iff] at *
  intro h
  rcases ltV_tri b a with h3|h3|h3
  ·exact h1 h3
  ·subst h3; exact h2 h
  ·exact h2 (ltV_trans h h3)) (fun a b=>by
  rcases ltV_tri a b with h|h|h
  ·rw [Bool.or_eq_true]; exact .inl ((leB_iff a b).2 (ltV_asymm h))
  ·subst h; rw [Bool.or_eq_true]; exact .inl ((leB_iff a a).2 (ltV_irrefl _))
  ·rw [Bool.or_eq_true]; exact .inr ((leB_iff b a).2 (ltV_asymm h))) l
 exact h.imp fun {a b} h=>(leB_iff a b).1 h
theorem srtD_len (l:List DV):(srtD l).length<=l.length:=by
 unfold srtD
 have:=cmpD_len (l:=l.mergeSort leB)
 rw [List.length_mergeSort] at this
 exact this
theorem srtD_eq {l m:List DV} (h1:m.Pairwise ltV) (h2:∀ x,x ∈ m ↔ x ∈ l):m=srtD l:=srt_unique h1 (srtD_srt l) fun x=>by rw [h2,srtD_mem]
def insD (p:DV):List DV->List DV
 | []=>[p]
 | a :: l=>if ltV a p then a :: insD p l else if a=p then a :: l else p :: a :: l
theorem insD_mem {p x:DV}:∀ {l:List DV},x ∈ insD p l ↔ x=p\/x ∈ l
 | []=>by simp [insD]
 | a :: l=>by
  have ih:=insD_mem (p:=p) (x:=x) (l:=l)
  unfold insD
  split
  ·rw [List.mem_cons,ih,List.mem_cons]; constructor
   ·rintro (h|h|h)
    ·exact .inr (.inl h)
    ·exact .inl h
    ·exact .inr (.inr h)
   ·rintro (h|h|h)
    ·exact .inr (.inl h)
    ·exact .inl h
    ·exact .inr (.inr h)
  ·split
   ·rename_i h; subst h; simp
   ·simp
theorem insD_srt {p:DV}:∀ {l:List DV},l.Pairwise ltV->(insD p l).Pairwise ltV
 | [],_=>by simp [insD]
 | a :: l,h=>by
  have h':=h
  rw [List.pairwise_cons] at h
  unfold insD
  split
  ·rename_i hlt
   refine List.pairwise_cons.2 ⟨fun x hx=>?_,insD_srt h.2⟩
   rcases insD_mem.1 hx with rfl|hx
   ·exact hlt
   ·exact h.1 x hx
  ·split
   ·exact h'
   ·rename_i h1 h2
    have hp:ltV p a:=by
     rcases ltV_tri a p with h3|h3|h3
     ·exact absurd h3 h1
     ·exact absurd h3 h2
     ·exact h3
    refine List.pairwise_cons.2 ⟨fun x hx=>?_,h'⟩
    rcases List.mem_cons.1 hx with rfl|hx
    ·exact hp
    ·exact ltV_trans hp (h.1 x hx)
theorem insD_at {p:DV}:∀ {l:List DV} {i:Nat},i<=l.length->(∀ j,j < i->ltV (nth (t:=tVec) l j) p)->(i < l.length->¬ ltV (nth (t:=tVec) l i) p) →
  insD p l=if i < l.length/\nth (t:=tVec) l i=p then l else l.take i++p :: l.drop i
 | [],0,_,_,_=>by simp [insD]
 | [],i+1,h,_,_=>by simp at h
 | a :: l,0,_,_,h2=>by
  have h2:¬ ltV a p:=h2 (by simp)
  have e:nth (t:=tVec) (a :: l) 0=a:=rfl
  unfold insD
  rw [if_neg h2,e]
  by_cases h3:a=p
  ·rw [if_pos h3,if_pos ⟨by simp,h3⟩]
  ·rw [if_neg h3,if_neg fun h=>h3 h.2]; rfl
 | a :: l,i+1,hi,h1,h2=>by
  have e:∀ j,nth (t:=tVec) (a :: l) (j+1)=nth (t:=tVec) l j:=fun j=>by simp [nth]
  have h0:ltV a p:=h1 0 (by omega)
  have ih:=insD_at (p:=p) (l:=l) (i:=i) (by simp only [List.length_cons] at hi; omega) (fun j hj=>by rw [<-e]; exact h1 (j+1) (by omega)) (fun hj=>by rw [<-e]; exact h2 (by simp only [List.length_cons]; omega))
  unfold insD
  rw [if_pos h0,ih,e]
  by_cases h3:i < l.length/\nth (t:=tVec) l i=p
  ·rw [if_pos h3,if_pos ⟨by simp only [List.length_cons]; omega,h3.2⟩]
  ·rw [if_neg h3,if_neg fun h=>h3 ⟨by have:=h.1; simp only [List.length_cons] at this; omega,h.2⟩]; rfl
def srtI (l:List DV) (i:Nat):List DV:=(l.take i).foldl (fun s p=>insD p s) []
theorem srtI_step {l:List DV} {i:Nat} (h:i < l.length):srtI l (i+1)=insD (nth (t:=tVec) l i) (srtI l i):=by
 unfold srtI
 rw [nth_lt h,List.take_succ_eq_append_getElem h,List.foldl_append]; rfl
theorem ins_fold:∀ {l s:List DV},s.Pairwise ltV->(l.foldl (fun s p=>insD p s) s).Pairwise ltV/\∀ x,x ∈ l.foldl (fun s p=>insD p s) s ↔ x ∈ l\/x ∈ s
 | [],s,h=>⟨h,fun x=>by simp⟩
 | p :: l,s,h=>by
  obtain ⟨h1,h2⟩:=ins_fold (l:=l) (insD_srt (p:=p) h)
  refine ⟨h1,fun x=>?_⟩
  rw [List.foldl_cons,h2,insD_mem,List.mem_cons]
  constructor
  ·rintro (h|h|h)
   ·exact .inl (.inr h)
   ·exact .inl (.inl h)
   ·exact .inr h
  ·rintro ((h|h)|h)
   ·exact .inr (.inl h)
   ·exact .inl h
   ·exact .inr (.inr h)
theorem srtI_all (l:List DV):srtI l l.length=srtD l:=by
 unfold srtI
 rw [List.take_length]
 obtain ⟨h1,h2⟩:=ins_fold (l:=l) (s:=[]) List.Pairwise.nil
 exact srtD_eq h1 fun x=>by rw [h2]; simp
theorem insD_len {p:DV}:∀ {l:List DV},(insD p l).length<=l.length+1
 | []=>by simp [insD]
 | a :: l=>by
  have ih:=insD_len (p:=p) (l:=l)
  unfold insD
  split
  ·simp only [List.length_cons]; omega
  ·split<;>simp only [List.length_cons]<;>omega
theorem srtI_len (l:List DV):∀ i,(srtI l i).length<=i
 | 0=>by simp [srtI]
 | i+1=>by
  by_cases h:i < l.length
  ·rw [srtI_step h]
   have:=insD_len (p:=nth (t:=tVec) l i) (l:=srtI l i)
   have:=srtI_len l i
   omega
  ·have:srtI l (i+1)=srtI l i:=by
    unfold srtI; rw [List.take_of_length_le (by omega),List.take_of_length_le (by omega)]
   rw [this]
   have:=srtI_len l i
   omega
def popD (v:DV):List DV->List DV
 | b :: a :: l=>if trn a b v<=0 then popD v (a :: l) else b :: a :: l
 | l=>l
theorem popD_len {v:DV}:∀ {l:List DV},(popD v l).length<=l.length
 | []=>Nat.le_refl _
 | [a]=>Nat.le_refl _
 | b :: a :: l=>by
  unfold popD
  split
  ·exact Nat.le_trans popD_len (by simp)
  ·exact Nat.le_refl _
theorem popD_sub {v x:DV}:∀ {l:List DV},x ∈ popD v l->x ∈ l
 | [],h=>h
 | [a],h=>h
 | b :: a :: l,h=>by
  unfold popD at h
  split at h
  ·exact List.mem_cons_of_mem _ (popD_sub h)
  ·exact h
def chR (l:List DV):List DV:=l.foldl (fun c v=>v :: popD v c) []
def chRi (l:List DV) (i:Nat):List DV:=chR (l.take i)
theorem chRi_step {l:List DV} {i:Nat} (h:i < l.length):chRi l (i+1)=nth (t:=tVec) l i :: popD (nth (t:=tVec) l i) (chRi l i):=by
 unfold chRi chR
 rw [nth_lt h,List.take_succ_eq_append_getElem h,List.foldl_append]; rfl
theorem chRi_len (l:List DV):∀ i,(chRi l i).length<=i
 | 0=>by simp [chRi,chR]
 | i+1=>by
  by_cases h:i < l.length
  ·rw [chRi_step h,List.length_cons]
   have:=popD_len (v:=nth (t:=tVec) l i) (l:=chRi l i)
   have:=chRi_len l i
   omega
  ·have:chRi l (i+1)=chRi l i:=by
    unfold chRi; rw [List.take_of_length_le (by omega),List.take_of_length_le (by omega)]
   rw [this]
   have:=chRi_len l i
   omega
theorem chRi_mem {l:List DV} {x:DV}:∀ {i:Nat},x ∈ chRi l i->x ∈ l
 | 0,h=>by simp [chRi,chR] at h
 | i+1,h=>by
  by_cases hi:i < l.length
  ·rw [chRi_step hi] at h
   rcases List.mem_cons.1 h with rfl|h
   ·exact nth_mem hi
   ·exact chRi_mem (popD_sub h)
  ·have e:chRi l (i+1)=chRi l i:=by
    unfold chRi; rw [List.take_of_length_le (by omega),List.take_of_length_le (by omega)]
   rw [e] at h
   exact chRi_mem h
def chD (l:List DV):List DV:=(chR l).reverse.dropLast
def hullD (l:List DV):List DV:=if (srtD l).length < 2 then srtD l else chD (srtD l)++chD (srtD l).reverse
def rot1 (v:DV):DV:=(-v.2,v.1)
def rotN:Nat->DV->DV
 | 0,v=>v
 | n+1,v=>rot1 (rotN n v)
theorem okV_of {v:DV} (h1:-1000<=v.1) (h2:v.1<=1000) (h3:-1000<=v.2) (h4:v.2<=1000):okV v=true:=by
 unfold okV inB
 rw [Bool.and_eq_true,decide_eq_true_iff,decide_eq_true_iff]
 exact ⟨⟨h1,h2⟩,h3,h4⟩
theorem okV_rot {v:DV} (h:okV v=true):∀ n,okV (rotN n v)=true
 | 0=>h
 | n+1=>by
  have:=okV_b (okV_rot h n)
  show okV (rot1 (rotN n v))=true
  unfold rot1
  exact okV_of (by simp only; omega) (by simp only; omega) (by simp only; omega) (by simp only; omega)
theorem turnVec_fn (v:DV) (k:Int) (hv:okV v=true) (hk:0<=k/\k<=3):Fn Tryz.prog 104 [⟨tVec,v⟩,⟨.int,k⟩] false [⟨tVec,rotN k.toNat v⟩]:=by
 have e:(k % 4+4) % 4=k:=by omega
 refine fe Tryz.func104 Tryz.ntmps104 Tryz.results104 fun hwf=>?_
 try simp (maxSteps:=9^9) only[go_sem]
 refine RemW.pos (by omega) (by decide) ?_
 try simp (maxSteps:=9^9) only[go_sem]
 repeat refine AI ?_
 refine RemW.pos (by omega) (by decide) ?_
 rw [e]
 try simp (maxSteps:=9^9) only[go_sem]
 refine LoopG.intro _ _ _ (fun i:Nat=>⟨[(2,.ptr 0 0),(4,.ptr 1 0),(8,.sc (.int .i64 k)),(9,.sc (.int .i64 i))],[(1,.box [.sc (.int .i64 0),.sc (.int .i64 0)]),(0,.box [.sc (.int .i64 (rotN i v).1),.sc (.int .i64 (rotN i v).2)])]⟩) (fun i=>i<=k.toNat) (fun i=>k.toNat - i) 0 ?_ (Nat.zero_le _) ?_
 ·exact WK
 ·rintro i hi
  have hb:=okV_b (okV_rot hv i)
  have hst:rotN (i+1) v=(-(rotN i v).2,(rotN i v).1):=rfl
  generalize rotN i v=u at hb hst ⊢
  obtain ⟨b1,b2,b3,b4⟩:=hb
  try simp (maxSteps:=9^9) only[go_sem]
  refine CondW_dec (fun hA=>?_) (fun hA=>?_)
  ·try simp (maxSteps:=9^9) only[go_sem]
   repeat refine AI ?_
   refine LoopK.mk (i+1) ?_ (by omega) (by omega)
   rw [hst]
   exact WK
  ·rw [show k.toNat=i by omega]
   try simp (maxSteps:=9^9) only[go_sem]
   all_goals repeat refine AI ?_
   all_goals first|kernel_rfl|omega|rfl
theorem TurnVec_fn (v:DV) (k:Int) (hv:okV v=true) (hk:0<=k/\k<=3):Fn Tryz.prog 163 [⟨tVec,v⟩,⟨.int,k⟩] false [⟨tVec,rotN k.toNat v⟩]:=by
 have c1:=IsValidVec_fn v
 rw [hv] at c1
 have e:k % 4=k:=by omega
 have d1:=decide_eq_false (p:=k < 0) (by omega)
 refine fe Tryz.func163 Tryz.ntmps163 Tryz.results163 fun hwf=>?_
 try simp (maxSteps:=9^9) only[go_sem]
 repeat refine AI ?_
 refine cw c1 ?_
 try simp (maxSteps:=9^9) only[go_sem]
 refine RemW.pos (by omega) (by decide) ?_
 rw [e]
 try simp (maxSteps:=9^9) only[go_sem,d1]
 refine LoopG.intro _ _ _ (fun i:Nat=>⟨[(1,.sc (.int .i64 (k - i))),(2,.ptr 0 0),(4,.ptr 1 0)],[(1,.box [.sc (.int .i64 0),.sc (.int .i64 0)]),(0,.box [.sc (.int .i64 (rotN i v).1),.sc (.int .i64 (rotN i v).2)])]⟩) (fun i=>i<=k.toNat) (fun i=>k.toNat - i) 0 ?_ (Nat.zero_le _) ?_
 ·exact WK
 ·rintro i hi
  have hb:=okV_b (okV_rot hv i)
  have hst:rotN (i+1) v=(-(rotN i v).2,(rotN i v).1):=rfl
  have hki:k - (i:Int) - 1=k - ((i+1:Nat):Int):=by omega
  by_cases hA:(k:Int) - i > 0
  ·generalize rotN i v=u at hb hst ⊢
   obtain ⟨b1,b2,b3,b4⟩:=hb
   try simp (maxSteps:=9^9) only[go_sem]
   refine CondW_dec (fun hB=>?_) (fun hB=>?_)
   ·try simp (maxSteps:=9^9) only[go_sem]
    repeat refine AI ?_
    refine LoopK.mk (i+1) ?_ (by omega) (by omega)
    rw [hst]
    exact WK
   ·omega
  ·rw [show k.toNat=i by omega]
   try simp (maxSteps:=9^9) only[go_sem]
   refine CondW_dec (fun hB=>?_) (fun hB=>?_)
   ·omega
   ·try simp (maxSteps:=9^9) only[go_sem]
    all_goals repeat refine AI ?_
    all_goals first|kernel_rfl|omega|rfl
def mapi (f:DV->DV) (l:List DV) (i:Nat):List DV:=(l.take i).map f
theorem mapi_step {f:DV->DV} {l:List DV} {i:Nat} (h:i < l.length):mapi f l (i+1)=mapi f l i++[f (nth (t:=tVec) l i)]:=by
 unfold mapi
 rw [List.take_succ_eq_append_getElem h,nth_lt h,List.map_append]
 rfl
theorem mapi_len {f:DV->DV} {l:List DV} {i:Nat} (h:i<=l.length):(mapi f l i).length=i:=by
 unfold mapi
 rw [List.length_map,List.length_take]; omega
theorem mapi_all {f:DV->DV} {l:List DV} {i:Nat} (h:l.length<=i):mapi f l i=l.map f:=by
 unfold mapi
 rw [List.take_of_length_le h]
theorem any_okV_f {l:List DV} (h:∀ v ∈ l,okV v=true):(l.any fun v=>!okV v)=false:=by
 rw [List.any_eq_false]
 intro v hv
 rw [h v hv]; decide
theorem TurnPolygonI_fn (l:List DV) (k:Int) (hl:∀ v ∈ l,okV v=true) (hn:l.length<=1048576) (hk:0<=k/\k<=3):Fn Tryz.prog 70 [⟨.slice tVec,l⟩,⟨.int,k⟩] true [⟨.slice tVec,l.map (rotN k.toNat)⟩]:=by
 have c1:=areVecs_fn l
 rw [any_okV_f hl] at c1
 refine fe Tryz.func70 Tryz.ntmps70 Tryz.results70 fun hwf=>?_
 try simp (maxSteps:=9^9) only[go_sem]
 repeat refine AI ?_
 refine cw c1 ?_
 try simp (maxSteps:=9^9) only[go_sem]
 refine LoopG.intro _ _ _ (fun i:Nat=>⟨[(1,.sc (.int .i64 k)),(5,.row 0 0),(12,.sl tVec l),(13,.sc (.int .i64 l.length)),(14,.sc (.int .i64 i))],[(0,.row 61 tVec 0 true (mapi (rotN k.toNat) l i))]⟩) (fun i=>i<=l.length) (fun i=>l.length - i) 0 ?_ (Nat.zero_le _) ?_
 ·exact WK
 ·rintro i hi
  try simp (maxSteps:=9^9) only[go_sem]
  refine CondW_dec (fun hA=>?_) (fun hA=>?_)
  ·have hlt:i < l.length:=by omega
   have hml:=mapi_len (f:=rotN k.toNat) (l:=l) (i:=i) (by omega)
   have e:=mapi_step (f:=rotN k.toNat) hlt
   have c2:=turnVec_fn (nth (t:=tVec) l i) k (hl _ (nth_mem hlt)) hk
   try simp (maxSteps:=9^9) only[go_sem]
   repeat refine AI ?_
   repeat refine AI ?_
   refine cw c2 ?_
   try simp (maxSteps:=9^9) only[go_sem]
   try simp (maxSteps:=9^9) only[go_sem,hml]
   repeat refine AI ?_
   refine LoopK.mk (i+1) ?_ (by omega) (by omega)
   rw [e]
   refine Wk.mk [] ?_
   try simp (maxSteps:=9^9) only[go_sem]
   try (and_intros<;>first|rfl|omega|exact ⟨_,rfl⟩)
   all_goals (first|exact ⟨by omega,rfl⟩|exact ⟨rfl,rfl⟩)
  ·rw [mapi_all (by omega)]
   try simp (maxSteps:=9^9) only[go_sem]
theorem TurnPolygonS_fn (l:List DV) (k:Int) (hl:∀ v ∈ l,okV v=true) (hn:l.length<=1048576) (hk:0<=k/\k<=3):Fn Tryz.prog 122 [⟨.slice tVec,l⟩,⟨.int,k⟩] true [⟨.slice tVec,l.map (rotN k.toNat)⟩]:=by
 refine fe Tryz.func122 Tryz.ntmps122 Tryz.results122 fun hwf=>?_
 try simp (maxSteps:=9^9) only[go_sem]
 refine LoopG.intro _ _ _ (fun i:Nat=>⟨[(1,.sc (.int .i64 k)),(5,.row 0 0),(9,.sl tVec l),(10,.sc (.int .i64 l.length)),(11,.sc (.int .i64 i))],[(0,.row 61 tVec 0 true (mapi (rotN k.toNat) l i))]⟩) (fun i=>i<=l.length) (fun i=>l.length - i) 0 ?_ (Nat.zero_le _) ?_
 ·exact WK
 ·rintro i hi
  try simp (maxSteps:=9^9) only[go_sem]
  refine CondW_dec (fun hA=>?_) (fun hA=>?_)
  ·have hlt:i < l.length:=by omega
   have hml:=mapi_len (f:=rotN k.toNat) (l:=l) (i:=i) (by omega)
   have e:=mapi_step (f:=rotN k.toNat) hlt
   have ho:=hl _ (nth_mem hlt)
   have c1:=IsValidVec_fn (nth (t:=tVec) l i)
   rw [ho] at c1
   have c2:=TurnVec_fn (nth (t:=tVec) l i) k ho hk
   try simp (maxSteps:=9^9) only[go_sem]
   repeat refine AI ?_
   repeat refine AI ?_
   refine cw c1 ?_
   try simp (maxSteps:=9^9) only[go_sem]
   repeat refine AI ?_
   refine cw c2 ?_
   try simp (maxSteps:=9^9) only[go_sem]
   try simp (maxSteps:=9^9) only[go_sem,hml]
   repeat refine AI ?_
   refine LoopK.mk (i+1) ?_ (by omega) (by omega)
   rw [e]
   refine Wk.mk [] ?_
   try simp (maxSteps:=9^9) only[go_sem]
   try (and_intros<;>first|rfl|omega|exact ⟨_,rfl⟩)
   all_goals (first|exact ⟨by omega,rfl⟩|exact ⟨rfl,rfl⟩)
  ·rw [mapi_all (by omega)]
   try simp (maxSteps:=9^9) only[go_sem]
def negV (v:DV):DV:=(-v.1,-v.2)
theorem NegatePolygonI_fn (l:List DV) (hl:∀ v ∈ l,okV v=true) (hn:l.length<=1048576):Fn Tryz.prog 102 [⟨.slice tVec,l⟩] true [⟨.slice tVec,l.map negV⟩]:=by
 have c1:=areVecs_fn l
 rw [any_okV_f hl] at c1
 refine fe Tryz.func102 Tryz.ntmps102 Tryz.results102 fun hwf=>?_
 try simp (maxSteps:=9^9) only[go_sem]
 repeat refine AI ?_
 refine cw c1 ?_
 try simp (maxSteps:=9^9) only[go_sem]
 refine LoopG.intro _ _ _ (fun i:Nat=>⟨[(3,.row 0 0),(10,.sl tVec l),(11,.sc (.int .i64 l.length)),(12,.sc (.int .i64 i))],[(0,.row 61 tVec 0 true (mapi negV l i))]⟩) (fun i=>i<=l.length) (fun i=>l.length - i) 0 ?_ (Nat.zero_le _) ?_
 ·exact WK
 ·rintro i hi
  try simp (maxSteps:=9^9) only[go_sem]
  refine CondW_dec (fun hA=>?_) (fun hA=>?_)
  ·have hlt:i < l.length:=by omega
   have hml:=mapi_len (f:=negV) (l:=l) (i:=i) (by omega)
   have e:=mapi_step (f:=negV) hlt
   have hb:=okV_b (hl _ (nth_mem hlt))
   obtain ⟨b1,b2,b3,b4⟩:=hb
   try simp (maxSteps:=9^9) only[go_sem]
   repeat refine AI ?_
   try simp (maxSteps:=9^9) only[go_sem,hml]
   repeat refine AI ?_
   refine LoopK.mk (i+1) ?_ (by omega) (by omega)
   rw [e]
   unfold negV
   refine Wk.mk [] ?_
   try simp (maxSteps:=9^9) only[go_sem]
   try (and_intros<;>first|rfl|omega|exact ⟨_,rfl⟩)
   all_goals (first|exact ⟨by omega,rfl⟩|exact ⟨rfl,rfl⟩)
  ·rw [mapi_all (by omega)]
   try simp (maxSteps:=9^9) only[go_sem]
theorem NegatePolygonS_fn (l:List DV) (hl:∀ v ∈ l,okV v=true) (hn:l.length<=1048576):Fn Tryz.prog 162 [⟨.slice tVec,l⟩] true [⟨.slice tVec,l.map negV⟩]:=by
 refine fe Tryz.func162 Tryz.ntmps162 Tryz.results162 fun hwf=>?_
 try simp (maxSteps:=9^9) only[go_sem]
 refine LoopG.intro _ _ _ (fun i:Nat=>⟨[(3,.row 0 0),(7,.sl tVec l),(8,.sc (.int .i64 l.length)),(9,.sc (.int .i64 i))],[(0,.row 61 tVec 0 true (mapi negV l i))]⟩) (fun i=>i<=l.length) (fun i=>l.length - i) 0 ?_ (Nat.zero_le _) ?_
 ·exact WK
 ·rintro i hi
  try simp (maxSteps:=9^9) only[go_sem]
  refine CondW_dec (fun hA=>?_) (fun hA=>?_)
  ·have hlt:i < l.length:=by omega
   have hml:=mapi_len (f:=negV) (l:=l) (i:=i) (by omega)
   have e:=mapi_step (f:=negV) hlt
   have ho:=hl _ (nth_mem hlt)
   have c1:=IsValidVec_fn (nth (t:=tVec) l i)
   rw [ho] at c1
   have hb:=okV_b ho
   obtain ⟨b1,b2,b3,b4⟩:=hb
   try simp (maxSteps:=9^9) only[go_sem]
   repeat refine AI ?_
   repeat refine AI ?_
   refine cw c1 ?_
   try simp (maxSteps:=9^9) only[go_sem]
   try simp (maxSteps:=9^9) only[go_sem,hml]
   repeat refine AI ?_
   refine LoopK.mk (i+1) ?_ (by omega) (by omega)
   rw [e]
   unfold negV
   refine Wk.mk [] ?_
   try simp (maxSteps:=9^9) only[go_sem]
   try (and_intros<;>first|rfl|omega|exact ⟨_,rfl⟩)
   all_goals (first|exact ⟨by omega,rfl⟩|exact ⟨rfl,rfl⟩)
  ·rw [mapi_all (by omega)]
   try simp (maxSteps:=9^9) only[go_sem]
def addV (v c:DV):DV:=(c.1+v.1,c.2+v.2)
theorem moved_fn (l:List DV) (v:DV) (hv:okV v=true) (hl:∀ v ∈ l,okV v=true) (hn:l.length<=1048576):Fn Tryz.prog 142 [⟨.slice tVec,l⟩,⟨tVec,v⟩] true [⟨.slice tVec,l.map (addV v)⟩]:=by
 obtain ⟨q1,q2,q3,q4⟩:=okV_b hv
 refine fe Tryz.func142 Tryz.ntmps142 Tryz.results142 fun hwf=>?_
 try simp (maxSteps:=9^9) only[go_sem]
 refine LoopG.intro _ _ _ (fun i:Nat=>⟨[(3,.ptr 0 0),(5,.row 1 0),(9,.sl tVec l),(10,.sc (.int .i64 l.length)),(11,.sc (.int .i64 i))],[(1,.row 61 tVec 0 true (mapi (addV v) l i)),(0,.box [.sc (.int .i64 v.1),.sc (.int .i64 v.2)])]⟩) (fun i=>i<=l.length) (fun i=>l.length - i) 0 ?_ (Nat.zero_le _) ?_
 ·exact WK
 ·rintro i hi
  try simp (maxSteps:=9^9) only[go_sem]
  refine CondW_dec (fun hA=>?_) (fun hA=>?_)
  ·have hlt:i < l.length:=by omega
   have hml:=mapi_len (f:=addV v) (l:=l) (i:=i) (by omega)
   have e:=mapi_step (f:=addV v) hlt
   obtain ⟨b1,b2,b3,b4⟩:=okV_b (hl _ (nth_mem hlt))
   try simp (maxSteps:=9^9) only[go_sem]
   repeat refine AI ?_
   try simp (maxSteps:=9^9) only[go_sem,hml]
   repeat refine AI ?_
   refine LoopK.mk (i+1) ?_ (by omega) (by omega)
   rw [e]
   unfold addV
   refine Wk.mk [] ?_
   try simp (maxSteps:=9^9) only[go_sem]
   try (and_intros<;>first|rfl|omega|exact ⟨_,rfl⟩)
   all_goals (first|exact ⟨by omega,rfl⟩|exact ⟨rfl,rfl⟩)
  ·rw [mapi_all (by omega)]
   try simp (maxSteps:=9^9) only[go_sem]
section
variable {P:Program} {T:TypeId->Option Ty}
def RetG (T:TypeId->Option Ty) (rs:List ResultVar) (e:TypeId) (t:Ty) (l:List t.den) (σ:St):Prop :=
 match rs with
 | [r]=>∃ k ver,aRes T σ r=some (.row k ver)/\look σ.mem k=some (.row e t ver true l)
 | _=>False
theorem retG_ok (hT:TabOK P T) {fn:Func} {c:Cx} {σ:St} {Γ:Asg} {a:Act} {w:World} {e:TypeId} {t:Ty} {l:List t.den} (hs:Sim c σ Γ a w) (h:RetG T fn.results.toList e t l σ) :
  ∃ v,(results fn a.tmps).run P w=.ok v w/\∃ fps:List (List Nat),v.oneCell'=true/\GrowF t.rp c.base w e v l fps/\OwnFp c.base w fps.flatten/\∀ b ∈ fps.flatten,v.ownBlock ≠ some b:=by
 unfold RetG at h
 split at h
 ·rename_i r hr
  obtain ⟨k,ver,h1,h2⟩:=h
  obtain ⟨u,g1,g2⟩:=aRes_run (P:=P) hT hs h1 rfl
  obtain ⟨q1,B,hB,q2⟩:=g2
  rw [h2] at hB; injection hB with hB; subst hB
  obtain ⟨fps,hg,hf,hgd,hon⟩:=hs.mm k _ h2
  have hu:u=Γ.hd k:=q2.2 rfl
  have hfr:fn.results=#[r]:=toList1 hr
  refine ⟨u,?_,fps,q1,hu ▸ hg,hf ▸ hon rfl,fun b hb he=>?_⟩
  ·rw [results_eq,hfr,List.mapM_toArray,map_eq_pure_bind,Sem.run_bind,Sem.run_bind]
   simp only [List.mapM_cons,List.mapM_nil,Sem.run_bind,g1,Result.andThen_ok,Sem.run_pure]
   simp
  ·exact (hgd b (hf ▸ hb)).2 ⟨k,_,h2,by show (Γ.hd k).ownBlock=some b; rw [<-hu]; exact he⟩
 ·exact h.elim
def KRG (T:TypeId->Option Ty) (rs:List ResultVar) (e:TypeId) (t:Ty) (l:List t.den) (ex:Exit) (σ:St):Prop :=
 match ex with
 | .normal|.ret=>RetG T rs e t l σ
 | _=>False
@[go_sem] theorem KRG_n {rs:List ResultVar} {e:TypeId} {t:Ty} {l:List t.den} {σ:St}:KRG T rs e t l .normal σ=RetG T rs e t l σ:=(rfl)
@[go_sem] theorem KRG_r {rs:List ResultVar} {e:TypeId} {t:Ty} {l:List t.den} {σ:St}:KRG T rs e t l .ret σ=RetG T rs e t l σ:=(rfl)
attribute [go_sem] RetG
theorem fnG_enter (hT:TabOK P T) (hmix:P.follows .mixedOrders=true) {f:FuncId} {fn:Func} {code:Code} {args:List Dat} {e:TypeId} {t:Ty} {l:List t.den} (hf:P.funcs[f]? = some fn) (hname:(fn.name == "runtime.NumGoroutine")=false) (hb:fn.body=some code) (n:Nat) (hn:fn.ntmps=n) (rs:List ResultVar) (hr:fn.results=rs.toArray) (hna:args.length<=n)
  (h:(∀ d ∈ args,Wf d.1 d.2)->AC P T n code (KRG T rs e t l) ⟨argTm 0 args,[]⟩):FnG P f args e t l:=by
 subst hn
 have h':(∀ d ∈ args,Wf d.1 d.2)->AC P T fn.ntmps code (fun e' σ=>match e' with
   | .normal|.ret=>RetG T fn.results.toList e t l σ
   | _=>False) ⟨argTm 0 args,[]⟩:=fun hwf=>by
  have:=h hwf
  have e:(KRG T rs e t l)=fun e' σ=>match e' with
    | .normal|.ret=>RetG T fn.results.toList e t l σ
    | _=>False:=by
   have hrl:fn.results.toList=rs:=by rw [hr]
   rw [hrl]; funext e' σ; cases e'<;>rfl
  rw [e] at this
  exact this
 have:=fn_gen (VQ:=fun b S w v=>∃ fps:List (List Nat),v.oneCell'=true/\GrowF t.rp b w e v l fps/\OwnFp b w fps.flatten/\∀ b ∈ fps.flatten,v.ownBlock ≠ some b) hT hmix hf hname hb hna (fun c σ Γ a w hs hq=>retG_ok (P:=P) hT hs hq) h'
 refine ⟨this.1,fun w vs S ha=>(this.2 w vs S ha).mono ?_⟩
 rintro e w' ⟨hb,v,he,fps,q1,q2,q3,q4⟩
 exact ⟨hb,v,fps,he,q1,q2,q3,q4⟩
def RetP (T:TypeId->Option Ty) (rs:List ResultVar) (t:Ty) (x:t.den) (σ:St):Prop :=
 match rs with
 | [r]=>match aRes T σ r with
  | some (.ptr k 0)=>match look σ.mem k with
   | some (.box cs)=>Is (look σ.mem) t x cs
   | _=>False
  | _=>False
 | _=>False
theorem retP_ok (hT:TabOK P T) {fn:Func} {c:Cx} {σ:St} {Γ:Asg} {a:Act} {w:World} {t:Ty} {x:t.den} (hs:Sim c σ Γ a w) (h:RetP T fn.results.toList t x σ) :
  ∃ v,(results fn a.tmps).run P w=.ok v w/\DRes false c.base c.S w v ⟨.ext .ref t,some x⟩:=by
 unfold RetP at h
 split at h
 ·rename_i r hr
  split at h
  ·rename_i k h1
   split at h
   ·rename_i cs hk
    obtain ⟨u,g1,g2⟩:=aRes_run (P:=P) hT hs h1 rfl
    obtain ⟨xo,cs',hq,rfl⟩:=g2
    rw [hk] at hq; cases hq
    have hfr:fn.results=#[r]:=toList1 hr
    obtain ⟨hbase,_⟩:=hs.mm k _ hk
    obtain ⟨us,e,hg,hc⟩:=box_cell hs hk
    obtain ⟨fp,hrp,hfp,_⟩:=hs.isRep hc h
    refine ⟨_,?_,Γ.loc k none :: fp,⟨_,.inr ⟨rfl,rfl⟩,Γ.loc k none,0,us.toList,fp,rfl,rfl,hrp,fun j v hv=>?_⟩,(fun h=>by cases h),fun b hb=>(List.mem_cons.1 hb).elim (fun e=>e ▸ .inr hbase) (hfp b)⟩
    ·rw [results_eq,hfr,List.mapM_toArray,map_eq_pure_bind,Sem.run_bind,Sem.run_bind]
     simp only [List.mapM_cons,List.mapM_nil,Sem.run_bind,g1,Result.andThen_ok,Sem.run_pure]
     simp
    ·rw [Nat.zero_add,cell_of_row w _ _ us e (0,0) hg,<-Array.getElem?_toList]; exact hv
   ·exact h.elim
  ·exact h.elim
 ·exact h.elim
def KRP (T:TypeId->Option Ty) (rs:List ResultVar) (t:Ty) (x:t.den) (ex:Exit) (σ:St):Prop :=
 match ex with
 | .normal|.ret=>RetP T rs t x σ
 | _=>False
@[go_sem] theorem KRP_n {rs:List ResultVar} {t:Ty} {x:t.den} {σ:St}:KRP T rs t x .normal σ=RetP T rs t x σ:=(rfl)
@[go_sem] theorem KRP_r {rs:List ResultVar} {t:Ty} {x:t.den} {σ:St}:KRP T rs t x .ret σ=RetP T rs t x σ:=(rfl)
attribute [go_sem] RetP
theorem fnP_enter (hT:TabOK P T) (hmix:P.follows .mixedOrders=true) {f:FuncId} {fn:Func} {code:Code} {args:List Dat} {t:Ty} {x:t.den} (hf:P.funcs[f]? = some fn) (hname:(fn.name == "runtime.NumGoroutine")=false) (hb:fn.body=some code) (n:Nat) (hn:fn.ntmps=n) (rs:List ResultVar) (hr:fn.results=rs.toArray) (hna:args.length<=n)
  (h:(∀ d ∈ args,Wf d.1 d.2)->AC P T n code (KRP T rs t x) ⟨argTm 0 args,[]⟩):Fn P f args false [⟨.ext .ref t,some x⟩]:=by
 subst hn
 have h':(∀ d ∈ args,Wf d.1 d.2)->AC P T fn.ntmps code (fun e' σ=>match e' with
   | .normal|.ret=>RetP T fn.results.toList t x σ
   | _=>False) ⟨argTm 0 args,[]⟩:=fun hwf=>by
  have:=h hwf
  have e:(KRP T rs t x)=fun e' σ=>match e' with
    | .normal|.ret=>RetP T fn.results.toList t x σ
    | _=>False:=by
   have hrl:fn.results.toList=rs:=by rw [hr]
   rw [hrl]; funext e' σ; cases e'<;>rfl
  rw [e] at this
  exact this
 have:=fn_gen (VQ:=fun b S w v=>DRes false b S w v ⟨.ext .ref t,some x⟩) hT hmix hf hname hb hna (fun c σ Γ a w hs hq=>retP_ok (P:=P) hT hs hq) h'
 exact ⟨this.1,fun w vs S ha=>(this.2 w vs S ha).mono fun e w' ⟨hb,v,he,hd⟩=>⟨hb,v,he,hd⟩⟩
theorem args_wf {w:World} {S:Nat->Prop}:∀ {vs:List Value} {ds:List Dat},All2 (fun v d=>∃ fp,DRep w v d fp/\∀ b ∈ fp,S b) vs ds->∀ d ∈ ds,Wf d.1 d.2
 | _,[],_,d,hd=>by cases hd
 | v :: vs,d :: ds,⟨⟨fp,⟨cs,_,hr⟩,_⟩,h2⟩,d',hd'=>by
  rcases List.mem_cons.1 hd' with rfl|hd'
  ·exact rep_wf hr
  ·exact args_wf h2 d' hd'
 | [],_ :: _,h,_,_=>h.elim
theorem args_at {w:World} {S:Nat->Prop} {e:Dat}:∀ {vs:List Value} {ds:List Dat} {d:Nat},All2 (fun v d=>∃ fp,DRep w v d fp/\∀ b ∈ fp,S b) vs ds->ds[d]? = some e->∃ u,vs[d]? = some u/\∃ fp,DRep w u e fp/\∀ b ∈ fp,S b
 | _,[],d,_,h=>by simp at h
 | [],_ :: _,_,hA,_=>hA.elim
 | v :: vs,d0 :: ds,0,hA,h=>by simp at h; subst h; exact ⟨v,rfl,hA.1⟩
 | v :: vs,d0 :: ds,d+1,hA,h=>by simpa using args_at hA.2 (by simpa using h)
def KRC (T:TypeId->Option Ty) (rs:List ResultVar) (own:Bool) (d:Dat) (B:Blk) (ex:Exit) (σ:St):Prop :=
 match ex with
 | .normal|.ret=>RetOK T σ own rs [d]/\look σ.mem 0=some B
 | _=>False
@[go_sem] theorem KRC_n {rs:List ResultVar} {own:Bool} {d:Dat} {B:Blk} {σ:St}:KRC T rs own d B .normal σ=(RetOK T σ own rs [d]/\look σ.mem 0=some B):=(rfl)
@[go_sem] theorem KRC_r {rs:List ResultVar} {own:Bool} {d:Dat} {B:Blk} {σ:St}:KRC T rs own d B .ret σ=(RetOK T σ own rs [d]/\look σ.mem 0=some B):=(rfl)
def RetN (T:TypeId->Option Ty) (rs:List ResultVar) (cs:List AV) (σ:St):Prop :=
 match rs with
 | [r]=>match aRes T σ r with
  | some (.ptr k 0)=>look σ.mem k=some (.bx none cs)
  | _=>False
 | _=>False
def KRN (T:TypeId->Option Ty) (rs:List ResultVar) (cs:List AV) (ex:Exit) (σ:St):Prop :=
 match ex with
 | .normal|.ret=>RetN T rs cs σ
 | _=>False
@[go_sem] theorem KRN_n {rs:List ResultVar} {cs:List AV} {σ:St}:KRN T rs cs .normal σ=RetN T rs cs σ:=(rfl)
@[go_sem] theorem KRN_r {rs:List ResultVar} {cs:List AV} {σ:St}:KRN T rs cs .ret σ=RetN T rs cs σ:=(rfl)
attribute [go_sem] RetN
theorem sim_one {w:World} {b n:Nat} {S:Nat->Prop} {vs:List Value} {B0:Blk} {T0:Tm} (hmut:∀ Γ x,B0.mut Γ 0 x->x=b) (hofp:∀ Γ,B0.ofp Γ 0=[]) (hvs:vs.length<=n)
  (hB:BRep ⟨w.heap.size,w,S,n,fun x=>x=b⟩ [(0,B0)] ⟨fun _=>0,fun _=>undef,fun _=>[]⟩ w B0 0)
  (hT0:∀ d v,look T0 d=some v->∃ u,vs[d]? = some u/\VRep ⟨w.heap.size,w,S,n,fun x=>x=b⟩ [(0,B0)] ⟨fun _=>0,fun _=>undef,fun _=>[]⟩ w v u) :
  Sim ⟨w.heap.size,w,S,n,fun x=>x=b⟩ ⟨T0,[(0,B0)]⟩ ⟨fun _=>0,fun _=>undef,fun _=>[]⟩ { tmps:=vs.toArray++Array.replicate (n - vs.toArray.size) undef,defers:=[] } w:=by
 refine ⟨fun d v hd=>?_,fun k B hk=>?_,fun k k' B B' x hk hk' _ _=>?_,fun k k' B B' x hk hk' hne hx=>?_,.of (Below.refl _ _),Nat.le_refl _,rfl,by simp; omega⟩
 ·obtain ⟨u,h1,h2⟩:=hT0 d v hd
  refine ⟨u,?_,h2⟩
  have:=(List.getElem?_eq_some_iff.1 h1).1
  rw [Array.getElem?_append_left (by simpa using this)]
  simpa using h1
 ·by_cases h0:k=0
  ·subst h0
   rw [look_self] at hk; injection hk with hk; subst hk; exact hB
  ·rw [look_ne _ _ h0] at hk; cases hk
 ·by_cases h0:k=0<;>by_cases h1:k'=0
  ·omega
  ·rw [look_ne _ _ h1] at hk'; cases hk'
  ·rw [look_ne _ _ h0] at hk; cases hk
  ·rw [look_ne _ _ h0] at hk; cases hk
 ·by_cases h0:k=0
  ·subst h0
   rw [look_self] at hk; injection hk with hk; subst hk; rw [hofp] at hx; cases hx
  ·rw [look_ne _ _ h0] at hk; cases hk
def KRM (T:TypeId->Option Ty) (rs:List ResultVar) (res:List Dat) (B:Blk) (ex:Exit) (σ:St):Prop :=
 match ex with
 | .normal|.ret=>RetOK T σ false rs res/\look σ.mem 0=some B
 | _=>False
@[go_sem] theorem KRM_n {rs:List ResultVar} {res:List Dat} {B:Blk} {σ:St}:KRM T rs res B .normal σ=(RetOK T σ false rs res/\look σ.mem 0=some B):=(rfl)
@[go_sem] theorem KRM_r {rs:List ResultVar} {res:List Dat} {B:Blk} {σ:St}:KRM T rs res B .ret σ=(RetOK T σ false rs res/\look σ.mem 0=some B):=(rfl)
def avW (b:Nat) (d:Dat):AV :=
 match d with
 | ⟨.cst (.ptr p),_⟩=>if p=b then .ptr 0 0 else .sc (.pointer (some ⟨p,0,none⟩))
 | d=>av d.1 d.2
def argW (b i:Nat):List Dat->Tm
 | []=>[]
 | d :: ds=>(i,avW b d) :: argW b (i+1) ds
theorem argW_ge {b:Nat}:∀ {ds:List Dat} {i d:Nat} {v:AV},look (argW b i ds) d=some v->i<=d/\d < i+ds.length/\∃ e,ds[d - i]? = some e/\v=avW b e
 | [],_,_,_,h=>by cases h
 | e :: ds,i,d,v,h=>by
  simp only [argW,look] at h
  split at h
  ·rename_i hd; injection h with h; subst hd h; exact ⟨Nat.le_refl _,by simp,e,by simp,rfl⟩
  ·obtain ⟨h1,h2,e',h3,h4⟩:=argW_ge h
   refine ⟨by omega,by simp; omega,e',?_,h4⟩
   have:d - i=(d - (i+1))+1:=by omega
   rw [this,List.getElem?_cons_succ]; exact h3
theorem fnE_enter (hT:TabOK P T) (hmix:P.follows .mixedOrders=true) {f:FuncId} {fn:Func} {code:Code} {zs zs':List Value} {args:Nat->List Dat} {res:List Dat} (hf:P.funcs[f]? = some fn) (hname:(fn.name == "runtime.NumGoroutine")=false) (hb:fn.body=some code) (n:Nat) (hn:fn.ntmps=n) (rs:List ResultVar) (hr:fn.results=rs.toArray) (hfl:(res.all fun d=>d.1.flat)=true) (hna:∀ m,(args m).length<=n) (hz:∀ z ∈ zs,z.oneCell'=true/\okv z)
  (h:∀ b,(∀ d ∈ args b,Wf d.1 d.2)->AC P T n code (KRM T rs res (.bx (some b) (zs'.map fun z=>.sc z))) ⟨argW b 0 (args b),[(0,.bx (some b) (zs.map fun z=>.sc z))]⟩):FnW P f args (BoxI zs) (BoxI zs') res:=by
 subst hn
 refine ⟨fun vs w=>?_,hfl,fun w b o vs S hg hI hSb hargs=>?_⟩
 ·have h1:fn.name ≠ "runtime.NumGoroutine":=by simpa using hname
  simp [callFunc,hf,h1,hb]
 ·refine calls_of_wp hf hb ?_
  obtain ⟨e0,rfl⟩:=hI
  have hlen:=hargs.len
  have hnb:=hna b
  have hmut:∀ (Γ:Asg) (x:Nat),(Blk.bx (some b) (zs.map fun z=>AV.sc z)).mut Γ 0 x->x=b:=fun Γ x hx=>hx
  have hs:=sim_one (w:=w) (b:=b) (n:=fn.ntmps) (S:=S) (vs:=vs) (T0:=argW b 0 (args b)) hmut (fun _=>rfl) (by omega) ⟨rfl,_,e0,hg,vals_sc hz⟩ fun d v hd=>by
   obtain ⟨h1,h2,e,h3,rfl⟩:=argW_ge hd
   obtain ⟨u,hu,fp,hdr,hS⟩:=args_at hargs h3
   refine ⟨u,by simpa using hu,?_⟩
   have hgen:VRep ⟨w.heap.size,w,S,fn.ntmps,fun x=>x=b⟩ [(0,Blk.bx (some b) (zs.map fun z=>AV.sc z))] ⟨fun _=>0,fun _=>undef,fun _=>[]⟩ w (av e.1 e.2) u:=arep_vrep (av_rep hdr fun x hx=>⟨.inl (hS x hx),by
    rintro ⟨k,B,hk,hm⟩
    by_cases h0:k=0
    ·subst h0
     rw [look_self] at hk; injection hk with hk; subst hk
     rw [hmut _ _ hm] at hx
     exact hSb (hS _ hx)
    ·rw [look_ne _ _ h0] at hk; cases hk⟩)
   unfold avW
   split
   ·rename_i p x
    split
    ·rename_i hp
     subst hp
     obtain ⟨hu2,_⟩:=hgen
     exact ⟨some p,_,look_self ..,hu2⟩
    ·exact hgen
   ·exact hgen
  have hrl:fn.results.toList=rs:=by rw [hr]
  refine AC_wp hT hmix (h b (args_wf hargs)) hs fun e σ' Γ' a' w' hq hs'=>?_
  have hq':∀ (hx:RetOK T σ' false rs res/\look σ'.mem 0=some (.bx (some b) (zs'.map fun z=>.sc z))),a'.defers=[]/\∃ v,(results fn a'.tmps).run P w'=.ok v w'/\BelowX (fun x=>x=b) w.heap.size w w'/\(∃ o',w'.heap[b]? = some o'/\BoxI zs' o')/\∃ u,Ending.returned v=.returned u/\ResOK false w.heap.size S w' u res:=fun hx=>by
   obtain ⟨v,h1,h2⟩:=ret_ok (P:=P) (fn:=fn) hT hs' (by rw [hrl]; exact hx.1)
   obtain ⟨_,us,e,e3,e4⟩:=hs'.mm 0 _ hx.2
   obtain ⟨hus,_⟩:=sc_vals e4
   exact ⟨hs'.defs,v,h1,hs'.below,⟨_,e3,e,by rw [<-hus]⟩,v,rfl,h2⟩
  cases e with
  | normal=>exact hq' hq
  | ret=>exact hq' hq
  | _=>exact hq.elim
def RetNP (T:TypeId->Option Ty) (rs:List ResultVar) (t:Ty) (x:t.den) (σ:St):Prop :=
 match rs with
 | [r]=>match aRes T σ r with
  | some (.ptr k 0)=>match look σ.mem k with
   | some (.bx none cs)=>Is (lmQ (look σ.mem)) t x (cs.take t.size)/\(match cs.drop t.size with
    | [.row j v]=>(match look σ.mem j with
     | some (.ob none v' (.map []))=>v'=v
     | _=>False)
    | _=>False)
   | _=>False
  | _=>False
 | _=>False
theorem retNP_ok (hT:TabOK P T) {fn:Func} {c:Cx} {σ:St} {Γ:Asg} {a:Act} {w:World} {t:Ty} {x:t.den} (hs:Sim c σ Γ a w) (h:RetNP T fn.results.toList t x σ) :
  ∃ v,(results fn a.tmps).run P w=.ok v w/\∃ (b m:Nat) (e:TypeId) (us:List Value) (fp:List Nat),v=.pointer (some ⟨b,0,none⟩)/\c.base<=b/\c.base<=m/\b ≠ m/\w.heap[b]? = some (.cells (us++[Value.map (some m)]).toArray e (0,0))/\(∃ o,w.heap[m]? = some o/\MapI [] o)/\t.rp.rep w us x fp/\∀ y ∈ fp,(c.S y\/c.base<=y)/\y ≠ b/\y ≠ m:=by
 unfold RetNP at h
 split at h
 ·rename_i r hr
  split at h
  ·rename_i k h1
   split at h
   ·rename_i cs hk
    obtain ⟨hi,h⟩:=h
    split at h
    ·rename_i j v hd
     split at h
     ·rename_i v' hj
      obtain ⟨u,g1,g2⟩:=aRes_run (P:=P) hT hs h1 rfl
      obtain ⟨xo,cs',hq,rfl⟩:=g2
      rw [hk] at hq; cases hq
      obtain ⟨hbase,us,e,hge,hce⟩:=hs.mm k _ hk
      obtain ⟨m,o,o1,o2,o3,⟨m',o4⟩,es,ck,rfl,o5⟩:=hs.mm j _ hj
      have o1':=o1
      rw [o4] at o1'
      injection o1' with o1'
      subst o1'
      have hne:Γ.loc k none ≠ m':=fun he=>by
       have:=hs.inj k j _ _ m' hk hj he.symm o1
       subst this
       rw [hk] at hj; cases hj
      have hsplit:=hce
      rw [<-List.take_append_drop t.size cs] at hsplit
      have hc1:=hce.take t.size
      have hc2:=hce.drop t.size
      rw [hd] at hc2
      obtain ⟨i1,q1⟩:=lmQ_is hi
      obtain ⟨fp,r1,_,r3⟩:=hs.isRep hc1 i1
      have hfr:fn.results=#[r]:=toList1 hr
      obtain ⟨z,hz⟩:∃ z,us.toList.drop t.size=[z]:=by
       cases hul:us.toList.drop t.size with
       | nil=>rw [hul] at hc2; exact hc2.elim
       | cons z zs =>
        rw [hul] at hc2
        cases zs with
        | nil=>exact ⟨z,rfl⟩
        | cons z2 zs=>exact hc2.2.elim
      rw [hz] at hc2
      obtain ⟨⟨_,B,hB,hbh⟩,_⟩:=hc2
      rw [hj] at hB; injection hB with hB; subst hB
      have ez:z=Value.map (some m'):=(hbh.2 h).trans o4
      have hul:us=(us.toList.take t.size++[Value.map (some m')]).toArray:=Array.toList_inj.1 (by rw [List.toList_toArray,<-ez,<-hz,List.take_append_drop])
      refine ⟨_,?_,Γ.loc k none,m',e,us.toList.take t.size,fp,rfl,hbase,o2,hne,by rw [<-hul]; exact hge,⟨_,o3,es,ck,rfl,o5⟩,r1,fun y hy=>?_⟩
      ·rw [results_eq,hfr,List.mapM_toArray,map_eq_pure_bind,Sem.run_bind,Sem.run_bind]
       simp only [List.mapM_cons,List.mapM_nil,Sem.run_bind,g1,Result.andThen_ok,Sem.run_pure]
       simp
      ·have hg:=r3 q1 y hy
       refine ⟨hg.1,fun he=>hg.2 ⟨k,_,hk,he⟩,fun he=>hg.2 ⟨j,_,hj,by rw [he]; exact o1⟩⟩
     ·exact h.elim
    ·exact h.elim
   ·exact h.elim
  ·exact h.elim
 ·exact h.elim
def KRNP (T:TypeId->Option Ty) (rs:List ResultVar) (t:Ty) (x:t.den) (ex:Exit) (σ:St):Prop :=
 match ex with
 | .normal|.ret=>RetNP T rs t x σ
 | _=>False
@[go_sem] theorem KRNP_n {rs:List ResultVar} {t:Ty} {x:t.den} {σ:St}:KRNP T rs t x .normal σ=RetNP T rs t x σ:=(rfl)
@[go_sem] theorem KRNP_r {rs:List ResultVar} {t:Ty} {x:t.den} {σ:St}:KRNP T rs t x .ret σ=RetNP T rs t x σ:=(rfl)
attribute [go_sem] RetNP avW argW
theorem fnNP_enter (hT:TabOK P T) (hmix:P.follows .mixedOrders=true) {f:FuncId} {fn:Func} {code:Code} {args:List Dat} {t:Ty} {x:t.den} (hf:P.funcs[f]? = some fn) (hname:(fn.name == "runtime.NumGoroutine")=false) (hb:fn.body=some code) (n:Nat) (hn:fn.ntmps=n) (rs:List ResultVar) (hr:fn.results=rs.toArray) (hna:args.length<=n)
  (h:(∀ d ∈ args,Wf d.1 d.2)->AC P T n code (KRNP T rs t x) ⟨argTm 0 args,[]⟩):FnNP P f args t x:=by
 subst hn
 have h':(∀ d ∈ args,Wf d.1 d.2)->AC P T fn.ntmps code (fun e' σ=>match e' with
   | .normal|.ret=>RetNP T fn.results.toList t x σ
   | _=>False) ⟨argTm 0 args,[]⟩:=fun hwf=>by
  have:=h hwf
  have e:(KRNP T rs t x)=fun e' σ=>match e' with
    | .normal|.ret=>RetNP T fn.results.toList t x σ
    | _=>False:=by
   have hrl:fn.results.toList=rs:=by rw [hr]
   rw [hrl]; funext e' σ; cases e'<;>rfl
  rw [e] at this
  exact this
 have:=fn_gen (VQ:=fun n S w v=>∃ (b m:Nat) (e:TypeId) (us:List Value) (fp:List Nat),v=.pointer (some ⟨b,0,none⟩)/\n<=b/\n<=m/\b ≠ m/\w.heap[b]? = some (.cells (us++[Value.map (some m)]).toArray e (0,0))/\(∃ o,w.heap[m]? = some o/\MapI [] o)/\t.rp.rep w us x fp/\∀ y ∈ fp,(S y\/n<=y)/\y ≠ b/\y ≠ m) hT hmix hf hname hb hna (fun c σ Γ a w hs hq=>retNP_ok (P:=P) hT hs hq) h'
 refine ⟨this.1,fun w vs S ha=>(this.2 w vs S ha).mono fun e w' ⟨hb,v,he,b,m,e',us,fp,h1,hrest⟩=>⟨hb,b,m,e',us,fp,by rw [he,h1],hrest⟩⟩
def FnB (P:Program) (f:FuncId) (vs:List AV) (M:Mm) (own:Bool) (res:List Dat):Prop :=
 (∀ vs w,(callFunc f vs).run P w=.ok (.enter f vs) w) ∧
 ∀ (c:Cx) (Γ:Asg) (a:Act) (w:World) (tm:Tm) (us:List Value),Sim c ⟨tm,M⟩ Γ a w->All2 (fun v u=>ARep c M Γ w v u) vs us →
  Calls P f us.toArray w fun en w'=>BelowX c.X c.base c.w0 w'/\c.base<=w'.heap.size/\∃ v,en=.returned v/\ResOK own c.base c.S w' v res
def TW (P:Program) (n:Nat) (x:Code) (Q:Exit->St->Prop) (σ:St):Prop :=
 ∀ (c:Cx) (Γ:Asg) (a:Act) (w:World) (Q':Exit->Act->World->Prop),c.n=n->Sim c σ Γ a w->(∀ e σ' Γ' a' w',Q e σ'->Sim c σ' Γ' a' w'->Q' e a' w')->x.wp P Q' a w
theorem TW.of (hT:TabOK P T) (hmix:P.follows .mixedOrders=true) {n:Nat} {x:Code} {Q:Exit->St->Prop} {σ:St} (h:AC P T n x Q σ):TW P n x Q σ :=
 fun c Γ a w Q' hn hs hQ=>AC_wp hT hmix (by rw [hn]; exact h) hs hQ
theorem TW.seq (hT:TabOK P T) (hmix:P.follows .mixedOrders=true) {n:Nat} {x y:Code} {Q:Exit->St->Prop} {σ:St} (h:AC P T n x (thenA (fun σ'=>TW P n y Q σ') Q) σ):TW P n (.seq x y) Q σ :=
 fun c Γ a w Q' hn hs hQ=>by
  refine wp_seq (AC_wp hT hmix (show AC P T c.n x _ σ by rw [hn]; exact h) hs fun e σ' Γ' a' w' hq hs'=>?_)
  cases e with
  | normal=>exact hq c Γ' a' w' Q' hn hs' hQ
  | _=>exact hQ _ _ _ _ _ hq hs'
theorem TW.then (hT:TabOK P T) (hmix:P.follows .mixedOrders=true) {n:Nat} {x y:Code} {Q:Exit->St->Prop} {σ:St} (h:TW P n x (thenA (fun σ'=>AC P T n y Q σ') Q) σ):TW P n (.seq x y) Q σ :=
 fun c Γ a w Q' hn hs hQ=>by
  refine wp_seq (h c Γ a w _ hn hs fun e σ' Γ' a' w' hq hs'=>?_)
  cases e with
  | normal=>exact AC_wp hT hmix (show AC P T c.n y Q σ' by rw [hn]; exact hq) hs' hQ
  | _=>exact hQ _ _ _ _ _ hq hs'
theorem went_app {c:Cx} {ops:List Oper} {Q:Exit->Act->World->Prop} {post:List Oper}:∀ {os:List Oper} {es:List Eff} {σ:St} {Γ:Asg} {a:Act} {w:World},Went' P c ops σ os es->Sim c σ Γ a w->(∀ Γ' a' w',Sim c (runEs σ (os.zip es)) Γ' a' w'->wpList P ops.toArray Q post a' w')->wpList P ops.toArray Q (os++post) a w
 | [],_,σ,Γ,a,w,.nil _,hs,hQ=>hQ Γ a w hs
 | o :: os,e :: es,σ,Γ,a,w,.cons h1 h2,hs,hQ=>by
  refine wpList_step fun K hK=>?_
  exact h1.step hs (fun _ _=>rfl) (fun _ _ _ _ _=>rfl) (fun _ _=>rfl) fun Γ' a' w' hs'=>hK _ _ (went_app h2 hs' hQ)
def resV (own:Bool) (d:Dat):AV:=if own then oav 0 d else av d.1 d.2
def resM' (own:Bool) (d:Dat):Mm:=if own then (ocel 0 d.1 d.2).2 else []
def TailW (P:Program) (T:TypeId->Option Ty) (n:Nat) (ops:List Oper) (f:FuncId) (xs:List Operand) (d:Nat) (post:List Oper) (own:Bool) (r:Dat) (Q:Exit->St->Prop) (σ:St):Prop :=
 ∃ τ vs,Wk σ τ/\evs (look τ.tmps) xs=some vs/\vs.all AV.ok=true/\FnB P f vs τ.mem own [r]/\d < n/\AO P T n ops post ⟨[(d,resV own r)],resM' own r⟩ [] (fun σ' _=>Q .normal σ')
theorem TW.tail (hT:TabOK P T) {n id:Nat} {l:List Oper} (i:Nat) {d:Nat} {f:FuncId} {xs:Array Operand} {tys:Array TypeId} {ty:TypeId} {ps:String} {af:Array Edge} {post:List Oper} {own:Bool} {r:Dat} {Q:Exit->St->Prop} {σ:St}
  (hl:l.drop i=⟨some d,.call { callee:=.value (.func f),args:=xs,argTypes:=tys },ty,ps,af,none⟩ :: post)
  (h:AO P T n l (l.take i) σ [] (fun σ1 _=>TailW P T n l f xs.toList d post own r Q σ1)):TW P n (.region id l.toArray false) Q σ:=fun c Γ a w Q' hn hs hQ=>by
 subst hn
 obtain ⟨es,σ',h1,h3,h4⟩:=AO_went hT h Same.rfl'
 refine wp_region_lit ?_
 have hsp:l=l.take i++l.drop i:=(List.take_append_drop i l).symm
 rw [show wpList P l.toArray Q' l a w=wpList P l.toArray Q' (l.take i++l.drop i) a w by rw [<-hsp]]
 refine went_app h1 hs fun Γ1 a1 w1 hs1=>?_
 have hs1:=hs1.same h4
 obtain ⟨τ,vs,hwk,hev,hok,hfn,hd,hpost⟩:=h3
 obtain ⟨Γ2,hs2⟩:=wk_sim hs1 hwk
 rw [hl]
 refine wpList_step fun K hK=>?_
 rw [if_pos (by simp [Region.wanted])]
 have hvs:=evs_rep hs2 (xs:=xs.toList) (fun x _ t e=>rfl) hev hok
 have hvs':All2 (fun v u=>ARep c τ.mem Γ2 w1 v u) vs (xs.toList.map a1.eval):=by
  have:∀ {vs:List AV} {ys:List Operand},All2 (fun v x=>ARep c τ.mem Γ2 w1 v (a1.eval x)) vs ys->All2 (fun v u=>ARep c τ.mem Γ2 w1 v u) vs (ys.map a1.eval):=by
   intro vs ys
   induction vs generalizing ys with
   | nil=>intro h; cases ys with|nil=>trivial|cons=>exact h.elim
   | cons v vs ih=>intro h; cases ys with
    | nil=>exact h.elim
    | cons y ys=>exact ⟨h.1,ih h.2⟩
  exact this hvs
 have hrun:(execOp a1.eval ⟨some d,.call { callee:=.value (.func f),args:=xs,argTypes:=tys },ty,ps,af,none⟩).run P w1=.ok (.enter f (xs.map a1.eval)) w1:=by
  have h0:=hfn.1 (xs.map a1.eval) w1
  have e1:a1.eval (.func f)=.func (.func f) #[] #[]:=rfl
  simp [execOp,resolve,e1,Deferred.ofValue,invoke,h0]
 unfold Oper.wp
 rw [hrun,Oper.upon_enter]
 have hma:xs.map a1.eval=(xs.toList.map a1.eval).toArray:=Array.toList_inj.1 (by rw [Array.toList_map])
 rw [hma]
 refine (hfn.2 c Γ2 a1 w1 τ.tmps _ hs2 hvs').mono ?_
 rintro e w' ⟨hb,hbs,u,rfl,fp,hdr,hown,hfp⟩
 have h0:Sim c ⟨[],[]⟩ ⟨fun _=>0,fun _=>undef,fun _=>[]⟩ a1 w' :=
  ⟨fun d v hd=>(by cases hd),fun k B hk=>(by cases hk),fun k k' B B' b hk=>(by cases hk),fun k k' B B' b hk=>(by cases hk),hb,hbs,hs1.defs,hs1.sz⟩
 have hfin:∃ Γ3,Sim c ⟨[(d,resV own r)],resM' own r⟩ Γ3 (a1.put (some d) u) w':=by
  cases own with
  | true =>
   have ho:=hown rfl
   obtain ⟨cs,hpk,hrp⟩:=hdr
   obtain ⟨Γ',s1,r1,_,_,_⟩:=h0.ocel (k:=0) hrp ho (fun b hbb=>⟨.inr (ho.2 b hbb).1,fun ⟨k,B,hB,_⟩=>by cases hB⟩) (fun b hbb j B hj=>by cases hj) (fun p hp=>rfl)
   refine ⟨Γ',?_⟩
   have hv:VRep c ((ocel 0 r.1 r.2).2++[]) Γ' w' (oav 0 r) u:=by
    unfold oav
    rcases hpk with ⟨hag,rfl⟩|⟨hag,rfl⟩
    ·rw [hag]; exact ⟨cs,rfl,r1⟩
    ·rw [hag]
     obtain ⟨v,hv1⟩:=ocel_one (k:=0) (x:=r.2) hag
     rw [hv1] at r1 ⊢
     exact crep_vrep r1.1
   have:=s1.put (d:=some d) hv (fun x hx=>by injection hx with hx; subst hx; exact hd)
   simpa [resV,resM',St.put] using this
  | false =>
   refine ⟨⟨fun _=>0,fun _=>undef,fun _=>[]⟩,?_⟩
   have hv:VRep c [] ⟨fun _=>0,fun _=>undef,fun _=>[]⟩ w' (av r.1 r.2) u:=arep_vrep (av_rep hdr fun b hbb=>⟨hfp b hbb,fun ⟨k,B,hB,_⟩=>by cases hB⟩)
   have:=h0.put (d:=some d) hv (fun x hx=>by injection hx with hx; subst hx; exact hd)
   simpa [resV,resM',St.put] using this
 obtain ⟨Γ3,hs3⟩:=hfin
 obtain ⟨es',σ'',g1,g3,g4⟩:=AO_went hT hpost Same.rfl'
 exact hK _ _ (went_list g1 hs3 fun Γ' a' w' hs'=>hQ _ _ _ _ _ g3 (hs'.same g4))
end
theorem rv_len (b a:DV) (r:List DV):(b :: a :: r).reverse.length=r.length+2:=by rw [List.length_reverse]; rfl
theorem nth_app {l m:List DV} {x:DV} (k:Nat) (h:k=l.length):nth (t:=tVec) (l++x :: m) k=x:=by
 subst h
 rw [nth_lt (by simp)]
 simp
theorem rv_a (b a:DV) (r:List DV):nth (t:=tVec) (b :: a :: r).reverse r.length=a:=by
 rw [List.reverse_cons,List.reverse_cons,List.append_assoc]
 exact nth_app _ (by simp)
theorem rv_b (b a:DV) (r:List DV):nth (t:=tVec) (b :: a :: r).reverse (r.length+1)=b:=by
 rw [List.reverse_cons,List.reverse_cons]
 exact nth_app _ (by simp)
theorem rv_take (b a:DV) (r:List DV):(b :: a :: r).reverse.take (r.length+1)=(a :: r).reverse:=by
 rw [List.reverse_cons,List.take_append_of_le_length (by simp),List.take_of_length_le (by simp)]
theorem popD_go {v b a:DV} {r:List DV} (h:trn a b v<=0):popD v (b :: a :: r)=popD v (a :: r):=by
 rw [popD,if_pos h]
theorem popD_end {v b a:DV} {r:List DV} (h:¬ trn a b v<=0):popD v (b :: a :: r)=b :: a :: r:=by
 rw [popD,if_neg h]
theorem popD_1 {v:DV} {s:List DV} (h:s.length<=1):popD v s=s:=by
 match s,h with
 | [],_=>rfl
 | [a],_=>rfl
def popOK (v:DV) (s0 s:List DV):Prop:=popD v s=popD v s0/\(∀ x ∈ s,okV x=true)/\s.length<=s0.length
theorem trq_ok {a b c:DV} (ha:okV a=true) (hb:okV b=true) (hc:okV c=true):trq a b c=trn a b c:=by
 unfold trq
 rw [ha,hb,hc]; rfl
theorem chain_fn (l:List DV) (hl:∀ v ∈ l,okV v=true) (h0:0 < l.length) (hn:l.length<=1048576):FnG Tryz.prog 182 [⟨.slice tVec,l⟩] 61 tVec (chD l):=by
 refine fnG_enter tabOK mixes Tryz.func182 rfl rfl _ Tryz.ntmps182 _ Tryz.results182 (by simp) fun hwf=>?_
 try simp (maxSteps:=9^9) only[go_sem]
 refine LoopG.intro _ _ _ (fun i:Nat=>⟨[(3,.row 0 0),(7,.sl tVec l),(8,.sc (.int .i64 l.length)),(9,.sc (.int .i64 i))],[(0,.row 61 tVec 0 true (chRi l i).reverse)]⟩) (fun i=>i<=l.length) (fun i=>l.length - i) 0 ?_ (Nat.zero_le _) ?_
 ·exact WK
 ·rintro i hi
  try simp (maxSteps:=9^9) only[go_sem]
  refine CondW_dec (fun hA=>?_) (fun hA=>?_)
  ·have hlt:i < l.length:=by omega
   have hv:=hl _ (nth_mem hlt)
   have hst:=chRi_step hlt
   have hcl:=chRi_len l i
   try simp (maxSteps:=9^9) only[go_sem]
   repeat refine AI ?_
   generalize hvv:nth (t:=tVec) l i=v at hv hst ⊢
   refine LoopG.intro _ _ _ (fun s:List DV=>⟨[(3,.row 0 0),(5,.ptr 1 0),(7,.sl tVec l),(8,.sc (.int .i64 l.length)),(9,.sc (.int .i64 i))],[(1,.box [.sc (.int .i64 v.1),.sc (.int .i64 v.2)]),(0,.row 61 tVec 0 true s.reverse)]⟩) (popOK v (chRi l i)) (fun s=>s.length) (chRi l i) ?_ ⟨rfl,fun x hx=>hl _ (chRi_mem hx),Nat.le_refl _⟩ ?_
   ·exact WK
   ·rintro s ⟨k1,k2,k3⟩
    by_cases h1:s.length<=1
    ·have hrl:s.reverse.length=s.length:=List.length_reverse
     have d1:=decide_eq_false (p:=(s.reverse.length:Int) > 1) (by omega)
     try simp (maxSteps:=9^9) only[go_sem,d1]
     repeat refine AI ?_
     refine LoopK.mk (i+1) ?_ (by omega) (by omega)
     rw [hst,<-k1,popD_1 h1,List.reverse_cons]
     refine Wk.mk [] ?_
     try simp (maxSteps:=9^9) only[go_sem]
     try (and_intros<;>first|rfl|omega|exact ⟨_,rfl⟩)
     all_goals (first|exact ⟨by omega,rfl⟩|exact ⟨rfl,rfl⟩)
    ·obtain ⟨b,a,r,rfl⟩:∃ b a r,s=b :: a :: r:=by
      match s,h1 with
      | b :: a :: r,_=>exact ⟨b,a,r,rfl⟩
      | [a],h=>exact absurd (Nat.le_refl _) h
      | [],h=>exact absurd (Nat.zero_le _) h
     have ea:=rv_a b a r
     have eb:=rv_b b a r
     have et:=rv_take b a r
     have hrl:=rv_len b a r
     have oa:=k2 a (by simp)
     have ob:=k2 b (by simp)
     have hrc:(b :: a :: r).reverse++[v]=(v :: b :: a :: r).reverse:=(List.reverse_cons ..).symm
     have hls:(b :: a :: r).length=r.length+2:=rfl
     generalize hw:(b :: a :: r).reverse=w at ea eb et hrl hrc ⊢
     have d1:=decide_eq_true (p:=(w.length:Int) > 1) (by omega)
     have e2:((w.length:Int) - 2).toNat=r.length:=by omega
     have e1:((w.length:Int) - 1).toNat=r.length+1:=by omega
     have c1:=turn_fn (nth (t:=tVec) w ((w.length:Int) - 2).toNat) (nth (t:=tVec) w ((w.length:Int) - 1).toNat) v (by rw [e2,ea]; exact oa) (by rw [e1,eb]; exact ob) hv
     try simp (maxSteps:=9^9) only[go_sem,d1]
     repeat refine AI ?_
     refine cw c1 ?_
     try simp (maxSteps:=9^9) only[go_sem]
     repeat refine AI ?_
     refine CondW_dec (fun hB=>?_) (fun hB=>?_)
     ·rw [e2,e1,ea,eb] at hB
      try simp (maxSteps:=9^9) only[go_sem]
      repeat refine AI ?_
      refine SlcW.cut (e:=61) (o:=true) ⟨rfl,rfl,?_⟩
      try simp (maxSteps:=9^9) only[go_sem]
      repeat refine AI ?_
      refine LoopK.mk (a :: r) ?_ ⟨(popD_go hB).symm.trans k1,fun x hx=>k2 x (List.mem_cons_of_mem _ hx),by simp at k3 ⊢; omega⟩ (by simp)
      rw [e1,et]
      refine Wk.mk [] ?_
      try simp (maxSteps:=9^9) only[go_sem]
      try (and_intros<;>first|rfl|omega|exact ⟨_,rfl⟩)
      all_goals (first|exact ⟨by omega,rfl⟩|exact ⟨rfl,rfl⟩|trace_state)
     ·rw [e2,e1,ea,eb] at hB
      try simp (maxSteps:=9^9) only[go_sem]
      repeat refine AI ?_
      refine LoopK.mk (i+1) ?_ (by omega) (by omega)
      rw [hst,<-k1,popD_end hB,hrc]
      refine Wk.mk [] ?_
      try simp (maxSteps:=9^9) only[go_sem]
      try (and_intros<;>first|rfl|omega|exact ⟨_,rfl⟩)
      all_goals (first|exact ⟨by omega,rfl⟩|exact ⟨rfl,rfl⟩)
  ·have hii:i=l.length:=by omega
   subst hii
   have hne:0 < (chRi l l.length).reverse.length:=by
    rw [List.length_reverse]
    have:=chRi_step (l:=l) (i:=l.length - 1) (by omega)
    rw [show l.length - 1+1=l.length by omega] at this
    rw [this]; simp
   have hcl:=chRi_len l l.length
   have hrl:(chRi l l.length).reverse.length=(chRi l l.length).length:=List.length_reverse
   have hcd:chD l=(chRi l l.length).reverse.take (((chRi l l.length).reverse.length:Int) - 1).toNat:=by
    unfold chD chRi
    rw [List.take_length,List.dropLast_eq_take]
    congr 1
    omega
   rw [hcd]
   generalize (chRi l l.length).reverse=w at hne hrl ⊢
   try simp (maxSteps:=9^9) only[go_sem]
   repeat refine AI ?_
   refine SlcW.cut (e:=61) (o:=true) ⟨rfl,rfl,?_⟩
   try simp (maxSteps:=9^9) only[go_sem]
   repeat refine AI ?_
   exact ⟨0,1,rfl,rfl⟩
theorem l06Chain_fn (l:List DV) (hl:∀ v ∈ l,okV v=true) (h0:0 < l.length) (hn:l.length<=1048576):Fn Tryz.prog 135 [⟨.slice tVec,l⟩] true [⟨.slice tVec,(chR l).reverse⟩]:=by
 refine fe Tryz.func135 Tryz.ntmps135 Tryz.results135 fun hwf=>?_
 try simp (maxSteps:=9^9) only[go_sem]
 refine LoopG.intro _ _ _ (fun i:Nat=>⟨[(3,.row 0 0),(7,.sl tVec l),(8,.sc (.int .i64 l.length)),(9,.sc (.int .i64 i))],[(0,.row 61 tVec 0 true (chRi l i).reverse)]⟩) (fun i=>i<=l.length) (fun i=>l.length - i) 0 ?_ (Nat.zero_le _) ?_
 ·exact WK
 ·rintro i hi
  try simp (maxSteps:=9^9) only[go_sem]
  refine CondW_dec (fun hA=>?_) (fun hA=>?_)
  ·have hlt:i < l.length:=by omega
   have hv:=hl _ (nth_mem hlt)
   have hst:=chRi_step hlt
   have hcl:=chRi_len l i
   try simp (maxSteps:=9^9) only[go_sem]
   repeat refine AI ?_
   generalize hvv:nth (t:=tVec) l i=v at hv hst ⊢
   refine LoopG.intro _ _ _ (fun s:List DV=>⟨[(3,.row 0 0),(5,.ptr 1 0),(7,.sl tVec l),(8,.sc (.int .i64 l.length)),(9,.sc (.int .i64 i))],[(1,.box [.sc (.int .i64 v.1),.sc (.int .i64 v.2)]),(0,.row 61 tVec 0 true s.reverse)]⟩) (popOK v (chRi l i)) (fun s=>s.length) (chRi l i) ?_ ⟨rfl,fun x hx=>hl _ (chRi_mem hx),Nat.le_refl _⟩ ?_
   ·exact WK
   ·rintro s ⟨k1,k2,k3⟩
    by_cases h1:s.length<=1
    ·have hrl:s.reverse.length=s.length:=List.length_reverse
     have d1:=decide_eq_false (p:=(s.reverse.length:Int) > 1) (by omega)
     try simp (maxSteps:=9^9) only[go_sem,d1]
     repeat refine AI ?_
     refine LoopK.mk (i+1) ?_ (by omega) (by omega)
     rw [hst,<-k1,popD_1 h1,List.reverse_cons]
     refine Wk.mk [] ?_
     try simp (maxSteps:=9^9) only[go_sem]
     try (and_intros<;>first|rfl|omega|exact ⟨_,rfl⟩)
     all_goals (first|exact ⟨by omega,rfl⟩|exact ⟨rfl,rfl⟩)
    ·obtain ⟨b,a,r,rfl⟩:∃ b a r,s=b :: a :: r:=by
      match s,h1 with
      | b :: a :: r,_=>exact ⟨b,a,r,rfl⟩
      | [a],h=>exact absurd (Nat.le_refl _) h
      | [],h=>exact absurd (Nat.zero_le _) h
     have ea:=rv_a b a r
     have eb:=rv_b b a r
     have et:=rv_take b a r
     have hrl:=rv_len b a r
     have oa:=k2 a (by simp)
     have ob:=k2 b (by simp)
     have hrc:(b :: a :: r).reverse++[v]=(v :: b :: a :: r).reverse:=(List.reverse_cons ..).symm
     have hls:(b :: a :: r).length=r.length+2:=rfl
     generalize hw:(b :: a :: r).reverse=w at ea eb et hrl hrc ⊢
     have d1:=decide_eq_true (p:=(w.length:Int) > 1) (by omega)
     have e2:((w.length:Int) - 2).toNat=r.length:=by omega
     have e1:((w.length:Int) - 1).toNat=r.length+1:=by omega
     have c1:=Turn_fn (nth (t:=tVec) w ((w.length:Int) - 2).toNat) (nth (t:=tVec) w ((w.length:Int) - 1).toNat) v
     rw [trq_ok (by rw [e2,ea]; exact oa) (by rw [e1,eb]; exact ob) hv] at c1
     try simp (maxSteps:=9^9) only[go_sem,d1]
     repeat refine AI ?_
     refine cw c1 ?_
     try simp (maxSteps:=9^9) only[go_sem]
     repeat refine AI ?_
     refine CondW_dec (fun hB=>?_) (fun hB=>?_)
     ·rw [e2,e1,ea,eb] at hB
      try simp (maxSteps:=9^9) only[go_sem]
      repeat refine AI ?_
      refine SlcW.cut (e:=61) (o:=true) ⟨rfl,rfl,?_⟩
      try simp (maxSteps:=9^9) only[go_sem]
      repeat refine AI ?_
      refine LoopK.mk (a :: r) ?_ ⟨(popD_go hB).symm.trans k1,fun x hx=>k2 x (List.mem_cons_of_mem _ hx),by simp at k3 ⊢; omega⟩ (by simp)
      rw [e1,et]
      refine Wk.mk [] ?_
      try simp (maxSteps:=9^9) only[go_sem]
      try (and_intros<;>first|rfl|omega|exact ⟨_,rfl⟩)
      all_goals (first|exact ⟨by omega,rfl⟩|exact ⟨rfl,rfl⟩|trace_state)
     ·rw [e2,e1,ea,eb] at hB
      try simp (maxSteps:=9^9) only[go_sem]
      repeat refine AI ?_
      refine LoopK.mk (i+1) ?_ (by omega) (by omega)
      rw [hst,<-k1,popD_end hB,hrc]
      refine Wk.mk [] ?_
      try simp (maxSteps:=9^9) only[go_sem]
      try (and_intros<;>first|rfl|omega|exact ⟨_,rfl⟩)
      all_goals (first|exact ⟨by omega,rfl⟩|exact ⟨rfl,rfl⟩)
  ·have hcr:(chR l).reverse=(chRi l i).reverse:=by
    unfold chRi
    rw [List.take_of_length_le (by omega)]
   rw [hcr]
   try simp (maxSteps:=9^9) only[go_sem]
theorem l06Less_fn (a b:DV):Fn Tryz.prog 134 [⟨tVec,a⟩,⟨tVec,b⟩] false [⟨.bool,decide (ltV a b)⟩]:=by
 by_cases h1:a.1 < b.1
 ·have d1:=decide_eq_true h1
  rw [decide_eq_true (p:=ltV a b) (.inl h1)]
  refine fe Tryz.func134 Tryz.ntmps134 Tryz.results134 fun hwf=>?_
  try simp (maxSteps:=9^9) only[go_sem,d1]
 ·have d1:=decide_eq_false h1
  by_cases h2:a.1=b.1
  ·have d2:=decide_eq_true h2
   have e:decide (ltV a b)=decide (a.2 < b.2):=by
    by_cases h3:a.2 < b.2
    ·rw [decide_eq_true h3,decide_eq_true (p:=ltV a b) (.inr ⟨h2,h3⟩)]
    ·rw [decide_eq_false h3,decide_eq_false (p:=ltV a b) (fun h=>by unfold ltV at h; omega)]
   rw [e]
   refine fe Tryz.func134 Tryz.ntmps134 Tryz.results134 fun hwf=>?_
   try simp (maxSteps:=9^9) only[go_sem,d1,d2]
  ·have d2:=decide_eq_false h2
   rw [decide_eq_false (p:=ltV a b) (fun h=>by unfold ltV at h; omega)]
   refine fe Tryz.func134 Tryz.ntmps134 Tryz.results134 fun hwf=>?_
   try simp (maxSteps:=9^9) only[go_sem,d1,d2]
def bkD (l:List DV) (n:Nat):List DV:=l.reverse.take n
theorem bkD_step {l:List DV} {n:Nat} (h:n < l.length):bkD l (n+1)=bkD l n++[nth (t:=tVec) l (l.length - 1 - n)]:=by
 unfold bkD
 rw [List.take_add_one,List.getElem?_eq_getElem (by rw [List.length_reverse]; exact h),List.getElem_reverse,nth_lt (by omega)]
 rfl
theorem bkD_len {l:List DV} {n:Nat} (h:n<=l.length):(bkD l n).length=n:=by
 unfold bkD; rw [List.length_take,List.length_reverse]; omega
theorem bkD_all {l:List DV} {n:Nat} (h:l.length<=n):bkD l n=l.reverse:=by
 unfold bkD; rw [List.take_of_length_le (by rw [List.length_reverse]; exact h)]
theorem hullD_lt3 {l:List DV} (h:(srtD l).length < 3):hullD l=srtD l:=by
 unfold hullD
 split
 ·rfl
 ·match hs:srtD l,h with
  | [],_=>rfl
  | [a],_=>exact absurd (show (srtD l).length < 2 by rw [hs]; exact Nat.lt_succ_self _) (by assumption)
  | [a,b],_=>rfl
theorem chD_take (l:List DV):chD l=(chR l).reverse.take ((chR l).reverse.length - 1):=List.dropLast_eq_take
theorem chR_len (l:List DV):(chR l).length<=l.length:=by
 have:=chRi_len l l.length
 unfold chRi at this
 rwa [List.take_length] at this
theorem chR_pos (l:List DV) (h:0 < l.length):0 < (chR l).length:=by
 have:=chRi_step (l:=l) (i:=l.length - 1) (by omega)
 rw [show l.length - 1+1=l.length by omega] at this
 unfold chRi at this
 rw [List.take_length] at this
 rw [this]; simp
set_option maxHeartbeats 1000000 in
theorem specHull_fn (l:List DV) (hl:∀ v ∈ l,okV v=true) (hn:l.length<=64):Fn Tryz.prog 94 [⟨.slice tVec,l⟩] true [⟨.slice tVec,hullD l⟩]:=by
 have d0:=decide_eq_false (p:=(l.length:Int) > 64) (by omega)
 refine fe Tryz.func94 Tryz.ntmps94 Tryz.results94 fun hwf=>?_
 try simp (maxSteps:=9^9) only[go_sem,d0]
 refine LoopG.intro _ _ _ (fun i:Nat=>⟨[(3,.row 0 0),(17,.sl tVec l),(18,.sc (.int .i64 l.length)),(19,.sc (.int .i64 i))],[(0,.row 61 tVec 0 true (srtI l i))]⟩) (fun i=>i<=l.length) (fun i=>l.length - i) 0 ?_ (Nat.zero_le _) ?_
 ·exact WK
 ·rintro i hi
  try simp (maxSteps:=9^9) only[go_sem]
  refine CondW_dec (fun hA=>?_) (fun hA=>?_)
  ·have hlt:i < l.length:=by omega
   have hv:=hl _ (nth_mem hlt)
   have hst:=srtI_step hlt
   have hcl:=srtI_len l i
   have c1:=IsValidVec_fn (nth (t:=tVec) l i)
   rw [hv] at c1
   generalize hvv:nth (t:=tVec) l i=v at hv hst c1 ⊢
   generalize hss:srtI l i=s at hst hcl ⊢
   try simp (maxSteps:=9^9) only[go_sem,hvv]
   repeat refine AI ?_
   repeat refine AI ?_
   refine cw c1 ?_
   try simp (maxSteps:=9^9) only[go_sem]
   refine LoopG.intro _ _ _ (fun j:Nat=>⟨[(3,.row 0 0),(5,.ptr 1 0),(6,.sc (.int .i64 j)),(17,.sl tVec l),(18,.sc (.int .i64 l.length)),(19,.sc (.int .i64 i))],[(1,.box [.sc (.int .i64 v.1),.sc (.int .i64 v.2)]),(0,.row 61 tVec 0 true s)]⟩) (fun j=>j<=s.length/\∀ j',j' < j->ltV (nth (t:=tVec) s j') v) (fun j=>s.length - j) 0 ?_ ⟨Nat.zero_le _,fun j h=>absurd h (Nat.not_lt_zero _)⟩ ?_
   ·exact WK
   ·rintro j ⟨k1,k2⟩
    have hins:=insD_at (p:=v) (l:=s) (i:=j) k1 k2
    have e5:s.take j++v :: s.drop j=s.take j++[v]++s.drop j:=by rw [List.append_assoc]; rfl
    have hlm:(s.take j).length=j:=by rw [List.length_take]; omega
    have hlm2:(s.take j++[v]).length=j+1:=by rw [List.length_append,hlm]; rfl
    have hlm3:(s.drop j).length=s.length - j:=List.length_drop
    by_cases hj:j < s.length
    ·have d1:=decide_eq_true (p:=(j:Int) < (s.length:Int)) (by omega)
     have c2:=l06Less_fn (nth (t:=tVec) s j) v
     by_cases hlt2:ltV (nth (t:=tVec) s j) v
     ·rw [decide_eq_true hlt2] at c2
      try simp (maxSteps:=9^9) only[go_sem,d1]
      repeat refine AI ?_
      refine cw c2 ?_
      try simp (maxSteps:=9^9) only[go_sem]
      repeat refine AI ?_
      refine LoopK.mk (j+1) ?_ ⟨by omega,fun j' hj'=>?_⟩ (by omega)
      ·exact WK
      ·by_cases h:j' < j
       ·exact k2 j' h
       ·rw [show j'=j by omega]; exact hlt2
     ·rw [decide_eq_false hlt2] at c2
      have hins:=hins fun _=>hlt2
      by_cases he:nth (t:=tVec) s j=v
      ·have e3:(decide ((nth (t:=tVec) s j).1=v.1) && decide ((nth (t:=tVec) s j).2=v.2))=true:=by rw [he]; simp
       rw [if_pos ⟨hj,he⟩] at hins
       try simp (maxSteps:=9^9) only[go_sem,d1]
       repeat refine AI ?_
       refine cw c2 ?_
       try simp (maxSteps:=9^9) only[go_sem]
       repeat refine AI ?_
       try simp (maxSteps:=9^9) only[go_sem,d1,e3]
       repeat refine AI ?_
       refine LoopK.mk (i+1) ?_ (by omega) (by omega)
       rw [hst,hins]
       exact WK
      ·have e3:(decide ((nth (t:=tVec) s j).1=v.1) && decide ((nth (t:=tVec) s j).2=v.2))=false:=by
        by_cases q1:(nth (t:=tVec) s j).1=v.1
        ·by_cases q2:(nth (t:=tVec) s j).2=v.2
         ·exact absurd (Prod.ext q1 q2) he
         ·rw [decide_eq_false q2,Bool.and_false]
        ·rw [decide_eq_false q1,Bool.false_and]
       rw [if_neg (fun h=>he h.2)] at hins
       try simp (maxSteps:=9^9) only[go_sem,d1]
       repeat refine AI ?_
       refine cw c2 ?_
       try simp (maxSteps:=9^9) only[go_sem]
       repeat refine AI ?_
       try simp (maxSteps:=9^9) only[go_sem,d1,e3]
       repeat refine AI ?_
       refine SlcW.keep ?_
       try simp (maxSteps:=9^9) only[go_sem]
       repeat refine AI ?_
       refine SlcW.keep ?_
       try simp (maxSteps:=9^9) only[go_sem,List.take_length]
       repeat refine AI ?_
       refine LoopK.mk (i+1) ?_ (by omega) (by omega)
       rw [hst,hins,e5]
       refine Wk.mk [(0,2)] ?_
       try simp (maxSteps:=9^9) only[go_sem]
       try (and_intros<;>first|rfl|omega|exact ⟨_,rfl⟩)
       all_goals (first|exact ⟨by omega,rfl⟩|exact ⟨rfl,rfl⟩)
    ·have d1:=decide_eq_false (p:=(j:Int) < (s.length:Int)) (by omega)
     have hins:=hins fun h=>absurd h hj
     rw [if_neg (fun h=>hj h.1)] at hins
     try simp (maxSteps:=9^9) only[go_sem,d1]
     repeat refine AI ?_
     try simp (maxSteps:=9^9) only[go_sem,d1]
     repeat refine AI ?_
     refine SlcW.keep ?_
     try simp (maxSteps:=9^9) only[go_sem]
     repeat refine AI ?_
     refine SlcW.keep ?_
     try simp (maxSteps:=9^9) only[go_sem,List.take_length]
     repeat refine AI ?_
     refine LoopK.mk (i+1) ?_ (by omega) (by omega)
     rw [hst,hins,e5]
     refine Wk.mk [(0,2)] ?_
     try simp (maxSteps:=9^9) only[go_sem]
     try (and_intros<;>first|rfl|omega|exact ⟨_,rfl⟩)
     all_goals (first|exact ⟨by omega,rfl⟩|exact ⟨rfl,rfl⟩)
  ·have hii:i=l.length:=by omega
   subst hii
   rw [srtI_all]
   have hsm:∀ v ∈ srtD l,okV v=true:=fun v hv=>hl v (srtD_mem.1 hv)
   have hsl:=srtD_len l
   by_cases h3:(srtD l).length < 3
   ·rw [hullD_lt3 h3]
    generalize srtD l=s at h3 hsl ⊢
    have d3:=decide_eq_true (p:=(s.length:Int) < 3) (by omega)
    try simp (maxSteps:=9^9) only[go_sem,d3]
   ·have hh:hullD l=chD (srtD l)++chD (srtD l).reverse:=by unfold hullD; rw [if_neg (by omega)]
    rw [hh,chD_take,chD_take]
    generalize srtD l=s at h3 hsl hsm ⊢
    have d3:=decide_eq_false (p:=(s.length:Int) < 3) (by omega)
    have hrl:s.reverse.length=s.length:=List.length_reverse
    have c3:=l06Chain_fn s hsm (by omega) (by omega)
    have c4:=l06Chain_fn s.reverse (fun v hv=>hsm v (List.mem_reverse.1 hv)) (by omega) (by omega)
    try simp (maxSteps:=9^9) only[go_sem,d3]
    repeat refine AI ?_
    refine LoopG.intro _ _ _ (fun n:Nat=>⟨[(3,.row 0 0),(8,.row 1 0),(9,.sc (.int .i64 ((s.length:Int) - 1 - n)))],[(1,.row 61 tVec 0 true (bkD s n)),(0,.row 61 tVec 0 true s)]⟩) (fun n=>n<=s.length) (fun n=>s.length - n) 0 ?_ (Nat.zero_le _) ?_
    ·exact WK
    ·rintro n hn2
     try simp (maxSteps:=9^9) only[go_sem]
     refine CondW_dec (fun hB=>?_) (fun hB=>?_)
     ·have hbl:=bkD_len (l:=s) (n:=n) (by omega)
      have hbs:=bkD_step (l:=s) (n:=n) (by omega)
      have ei:((s.length:Int) - 1 - n).toNat=s.length - 1 - n:=by omega
      try simp (maxSteps:=9^9) only[go_sem]
      repeat refine AI ?_
      rw [ei]
      try simp (maxSteps:=9^9) only[go_sem,hbl]
      repeat refine AI ?_
      refine LoopK.mk (n+1) ?_ (by omega) (by omega)
      rw [hbs]
      exact WK
     ·rw [bkD_all (by omega)]
      have q1:=chR_len s
      have q2:=chR_pos s (by omega)
      have q3:=chR_len s.reverse
      have q4:=chR_pos s.reverse (by omega)
      have q5:(chR s).reverse.length=(chR s).length:=List.length_reverse
      have q6:(chR s.reverse).reverse.length=(chR s.reverse).length:=List.length_reverse
      generalize (chR s).reverse=lo at c3 q5 ⊢
      generalize (chR s.reverse).reverse=hi at c4 q6 ⊢
      have e7:((lo.length:Int) - 1).toNat=lo.length - 1:=by omega
      have e8:((hi.length:Int) - 1).toNat=hi.length - 1:=by omega
      have q7:(lo.take (lo.length - 1)).length=lo.length - 1:=by rw [List.length_take]; omega
      have q8:(hi.take (hi.length - 1)).length=hi.length - 1:=by rw [List.length_take]; omega
      try simp (maxSteps:=9^9) only[go_sem]
      repeat refine AI ?_
      refine cw c3 ?_
      try simp (maxSteps:=9^9) only[go_sem]
      repeat refine AI ?_
      refine cw c4 ?_
      try simp (maxSteps:=9^9) only[go_sem]
      repeat refine AI ?_
      refine SlcW.keep ?_
      try simp (maxSteps:=9^9) only[go_sem]
      rw [e7]
      try simp (maxSteps:=9^9) only[go_sem,q7]
      repeat refine AI ?_
      refine SlcW.keep ?_
      try simp (maxSteps:=9^9) only[go_sem]
      rw [e8]
      try simp (maxSteps:=9^9) only[go_sem,q7,q8]
      repeat refine AI ?_
      try simp (maxSteps:=9^9) only[go_sem,q7,q8]
      omega
end Go.Proofs.YtbnkojgcbmfloaaGreat.DW

namespace Go.Proofs.YtbnkojgcbmfloaaGreat.DW
open Go.RowKit Go.Sort
def encV (x:Int × Int):List Value:=[.int .i64 x.1,.int .i64 x.2]
theorem rep_vec {w:World} {cs:List Value} {x:DV} {f:List Nat} (h:tVec.rp.rep w cs x f):cs=encV x/\f=[]/\I64 x.1/\I64 x.2:=by
 obtain ⟨c1,c2,f1,f2,rfl,rfl,⟨rfl,rfl,h1⟩,⟨rfl,rfl,h2⟩⟩:=h
 exact ⟨rfl,rfl,h1,h2⟩
theorem vec_rep {w:World} {x:DV} (h1:I64 x.1) (h2:I64 x.2):tVec.rp.rep w (encV x) x [] :=
 ⟨_,_,[],[],rfl,rfl,⟨rfl,rfl,h1⟩,⟨rfl,rfl,h2⟩⟩
theorem vec_size:tVec.rp.size=2:=rfl
theorem encV_at (x:DV) (j:Nat) (h:j < 2):(encV x)[j]? = some ((encV x)[j]!):=by
 match j,h with
 | 0,_=>rfl
 | 1,_=>rfl
theorem flat_at (l:List DV) {t:Nat} (h:t < l.length * 2):(flatK encV 2 l.toArray)[t]! = (encV (l[t / 2]'(by omega)))[t % 2]!:=by
 rw [get_flatK encV 2 l.toArray t (by simpa using h)]
 rw [getElem!_pos l.toArray (t / 2) (by simp; omega)]
 rfl
theorem row_in {base:Nat} {w:World} {e:TypeId} {v:Value} {l:List DV} {fps:List (List Nat)} (h:GrowF tVec.rp base w e v l fps) (h0:0 < l.length) :
  ∃ g cap cur,v=.slice (some ⟨g,0,none⟩) l.length cap/\base<=g/\w.heap[g]? = some (.cells cur e (0,0))/\l.length<=cap/\cap<=maxLen/\cur.size=cap * 2/\HoldsK encV 2 w g 0 l.toArray/\∀ x ∈ l,I64 x.1/\I64 x.2:=by
 obtain ⟨xs,⟨hxl,hor⟩,hfl,he⟩:=h
 rcases hor with ⟨_,hn⟩|⟨g,cap,cur,hv,hb,hg,hnc,hcm,hcs,htk⟩
 ·omega
 rw [vec_size] at hxl hcs htk
 refine ⟨g,cap,cur,hv,hb,hg,hnc,hcm,hcs,fun j hj=>?_,fun x hx=>?_⟩
 ·have hj2:j < l.length * 2:=by simpa using hj
  refine ⟨?_,frozen_of_row w g _ cur e hg⟩
  rw [Nat.zero_add,cell_of_row w g j cur e (0,0) hg,<-Array.getElem?_toList]
  show _=some ((flatK encV 2 l.toArray)[j]!)
  rw [flat_at l hj2]
  obtain ⟨f,cs,_,h2,h3⟩:=he (j / 2) (l[j / 2]'(by omega)) (List.getElem?_eq_getElem _)
  obtain ⟨rfl,_⟩:=rep_vec h2
  have:=h3 (j % 2) _ (encV_at _ (j % 2) (by omega))
  rw [vec_size,show j / 2 * 2+j % 2=j by omega,<-htk,List.getElem?_take,if_pos hj2] at this
  exact this
 ·obtain ⟨i,hi,rfl⟩:=List.getElem_of_mem hx
  obtain ⟨f,cs,_,h2,_⟩:=he i l[i] (List.getElem?_eq_getElem hi)
  exact (rep_vec h2).2.2
theorem row_out {base:Nat} {w w':World} {e:TypeId} {g cap n:Nat} {cur:Array Value} {os:Array Obj} {d:List DV} (hb:base<=g) (hg:w.heap[g]? = some (.cells cur e (0,0))) (hcs:cur.size=cap * 2) (hcm:cap<=maxLen) (hd:d.length<=cap) (hI:∀ x ∈ d,I64 x.1/\I64 x.2) (m:Nat) (hm:m<=d.length)
  (hw:w'=sortWorldK encV 2 w g 0 n d.toArray os) :
  GrowF tVec.rp base w' e (.slice (some ⟨g,0,none⟩) m cap) (d.take m) (List.replicate m [])/\w.grownBy w' (some g):=by
 have hgs:g < w.heap.size:=(Array.getElem?_eq_some_iff.1 hg).1
 have hg':w'.heap[g]? = some (.cells (Go.Sort.putCells id 0 (flatK encV 2 d.toArray) cur) e (0,0)):=by
  subst hw
  unfold sortWorldK putRowK putRow mapBlock grow
  have hsz:g < (Sort.ahead w n).heap.size:=hgs
  simp only [heap_ahead]
  rw [Array.getElem?_append_left (by rw [Array.size_modify]; exact hgs),Array.getElem?_modify,if_pos rfl,hg]
  rfl
 have hlt:(d.take m).length=m:=by rw [List.length_take]; omega
 have hcell:∀ t,t < d.length * 2->(Go.Sort.putCells id 0 (flatK encV 2 d.toArray) cur).toList[t]? = some ((flatK encV 2 d.toArray)[t]!):=by
  intro t ht
  rw [Array.getElem?_toList]
  unfold Go.Sort.putCells
  rw [Array.getElem?_mapIdx,Array.getElem?_eq_getElem (by omega:t < cur.size),Option.map_some,if_pos ⟨Nat.zero_le _,by rw [size_flatK]; simpa using ht⟩]
  rfl
 have hps:(Go.Sort.putCells id 0 (flatK encV 2 d.toArray) cur).size=cap * 2:=by unfold Go.Sort.putCells; rw [Array.size_mapIdx,hcs]
 refine ⟨⟨(Go.Sort.putCells id 0 (flatK encV 2 d.toArray) cur).toList.take (m * 2),⟨?_,.inr ⟨g,cap,_,?_,hb,hg',?_,hcm,hps,?_⟩⟩,?_,fun i x hx=>?_⟩,?_⟩
 ·rw [hlt,vec_size,List.length_take,Array.length_toList,hps]; omega
 ·rw [hlt]
 ·rw [hlt]; omega
 ·rw [hlt,vec_size]
 ·rw [hlt,List.length_replicate]
 ·have hi:i < m:=by have:=(List.getElem?_eq_some_iff.1 hx).1; omega
  rw [List.getElem?_take,if_pos hi] at hx
  obtain ⟨hid,hx⟩:=List.getElem?_eq_some_iff.1 hx
  subst hx
  obtain ⟨i1,i2⟩:=hI _ (List.getElem_mem hid)
  refine ⟨[],encV d[i],by simp [hi],vec_rep i1 i2,fun j v hj=>?_⟩
  have hj2:j < 2:=(List.getElem?_eq_some_iff.1 hj).1
  rw [vec_size,List.getElem?_take,if_pos (by omega),hcell _ (by omega),flat_at d (by omega)]
  have e1:(i * 2+j) / 2=i:=by omega
  have e2:(i * 2+j) % 2=j:=by omega
  simp only [e1,e2]
  rw [<-encV_at _ j hj2,hj]
 ·subst hw
  refine ⟨rfl,rfl,rfl,?_,fun k hk hne=>?_⟩
  ·rw [sortWorldK,size_grow]
   have:(putRowK encV 2 (Sort.ahead w n) g 0 d.toArray).heap.size=w.heap.size:=by unfold putRowK; rw [size_putRow]; rfl
   omega
  ·have hkg:g ≠ k:=fun h=>hne (by rw [h])
   unfold sortWorldK putRowK putRow mapBlock grow
   simp only [heap_ahead]
   rw [Array.getElem?_append_left (by rw [Array.size_modify]; exact hk),Array.getElem?_modify,if_neg hkg]
theorem FnR.of {P:Program} {f:FuncId} {xs:List Cst} {e:TypeId} {l l':List DV} (he:∀ vs w,(callFunc f vs).run P w=.ok (.enter f vs) w) (h0:0 < l.length) (ret:Bool) (d:(∀ x ∈ l,I64 x.1/\I64 x.2)->∀ (w:World) (g cap:Nat),g < w.heap.size->l.length<=cap->cap<=maxLen->HoldsK encV 2 w g 0 l.toArray →
   Calls P f (.slice (some ⟨g,0,none⟩) l.length cap :: xs.map Cst.val).toArray w fun en w'=>∃ (dd:List DV) (n:Nat) (os:Array Obj),en=.returned (if ret then .slice (some ⟨g,0,none⟩) l'.length cap else .tuple #[])/\(ret=false->l'.length=l.length)/\dd.length=l.length/\(∀ x ∈ dd,x ∈ l\/x=(0,0))/\l'=dd.take l'.length/\l'.length<=dd.length/\w'=sortWorldK encV 2 w g 0 n dd.toArray os):FnR P f xs e tVec l l' ret:=by
 refine ⟨he,rfl,fun w base v fps hone hgr=>?_⟩
 obtain ⟨g,cap,cur,rfl,hb,hg,hnc,hcm,hcs,hH,hI⟩:=row_in hgr h0
 refine (d hI w g cap (Array.getElem?_eq_some_iff.1 hg).1 hnc hcm hH).mono ?_
 rintro en w' ⟨dd,n,os,h1,h2,h3,h4,h5,h6,h7⟩
 have hI2:∀ x ∈ dd,I64 x.1/\I64 x.2:=fun x hx=>by
  rcases h4 x hx with h|rfl
  ·exact hI x h
  ·exact ⟨(by show I64 0; unfold I64; omega),(by show I64 0; unfold I64; omega)⟩
 obtain ⟨k1,k2⟩:=row_out (base:=base) hb hg hcs hcm (by omega) hI2 l'.length h6 h7
 rw [<-h5] at k1
 exact ⟨.slice (some ⟨g,0,none⟩) l'.length cap,_,h1,fun hr=>by rw [h2 hr],rfl,rfl,k1,k2⟩
end Go.Proofs.YtbnkojgcbmfloaaGreat.DW

namespace Go.Proofs.YtbnkojgcbmfloaaGreat.DW
open Go.RowKit Go.Shelf
def sortL_ren:Go.Shelf.Ren:=⟨fun|6=>179|14=>219|15=>220|20=>248|21=>249|22=>250|23=>251|24=>252|25=>253|26=>254|27=>255|28=>256|29=>257|46=>271|47=>272|48=>273|49=>274|50=>275|57=>277|n=>n,fun|0=>0|3=>3|4=>4|5=>5|9=>9|22=>27|23=>186|24=>61|25=>187|39=>145|45=>215|46=>216|47=>217|50=>208|53=>222|55=>224|66=>227|70=>231|76=>233|77=>234|n=>n,fun n=>n⟩
theorem sortL:SlLaysF0.n6 Tryz.prog sortL_ren where
 mixed:=by kernel_rfl
 f6:=⟨"slices.SortFunc[[]loop.example/g00811/impl.Vec,loop.example/g00811/impl.Vec]",by decide,Tryz.func179.trans (congrArg some (by kernel_rfl))⟩
 f14:=⟨"slices.pdqsortCmpFunc[loop.example/g00811/impl.Vec]",by decide,Tryz.func219.trans (congrArg some (by kernel_rfl))⟩
 f15:=Tryz.func220.trans (congrArg some (by kernel_rfl))
 f20:=⟨"slices.insertionSortCmpFunc[loop.example/g00811/impl.Vec]",by decide,Tryz.func248.trans (congrArg some (by kernel_rfl))⟩
 f21:=⟨"slices.heapSortCmpFunc[loop.example/g00811/impl.Vec]",by decide,Tryz.func249.trans (congrArg some (by kernel_rfl))⟩
 f22:=⟨"slices.breakPatternsCmpFunc[loop.example/g00811/impl.Vec]",by decide,Tryz.func250.trans (congrArg some (by kernel_rfl))⟩
 f23:=⟨"slices.choosePivotCmpFunc[loop.example/g00811/impl.Vec]",by decide,Tryz.func251.trans (congrArg some (by kernel_rfl))⟩
 f24:=⟨"slices.reverseRangeCmpFunc[loop.example/g00811/impl.Vec]",by decide,Tryz.func252.trans (congrArg some (by kernel_rfl))⟩
 f25:=⟨"slices.partialInsertionSortCmpFunc[loop.example/g00811/impl.Vec]",by decide,Tryz.func253.trans (congrArg some (by kernel_rfl))⟩
 f26:=⟨"slices.partitionEqualCmpFunc[loop.example/g00811/impl.Vec]",by decide,Tryz.func254.trans (congrArg some (by kernel_rfl))⟩
 f27:=⟨"slices.partitionCmpFunc[loop.example/g00811/impl.Vec]",by decide,Tryz.func255.trans (congrArg some (by kernel_rfl))⟩
 f28:=Tryz.func256.trans (congrArg some (by kernel_rfl))
 f29:=Tryz.func257.trans (congrArg some (by kernel_rfl))
 f46:=⟨"slices.siftDownCmpFunc[loop.example/g00811/impl.Vec]",by decide,Tryz.func271.trans (congrArg some (by kernel_rfl))⟩
 f47:=Tryz.func272.trans (congrArg some (by kernel_rfl))
 f48:=Tryz.func273.trans (congrArg some (by kernel_rfl))
 f49:=⟨"slices.medianAdjacentCmpFunc[loop.example/g00811/impl.Vec]",by decide,Tryz.func274.trans (congrArg some (by kernel_rfl))⟩
 f50:=⟨"slices.medianCmpFunc[loop.example/g00811/impl.Vec]",by decide,Tryz.func275.trans (congrArg some (by kernel_rfl))⟩
 f57:=⟨"slices.order2CmpFunc[loop.example/g00811/impl.Vec]",by decide,Tryz.func277.trans (congrArg some (by kernel_rfl))⟩
 t0:=Tryz.underlying0
 a0:=Tryz.isAgg0
 z0:=Tryz.sizeOf0
 v0:=Tryz.zeroValue0
 t3:=Tryz.underlying3
 a3:=Tryz.isAgg3
 z3:=Tryz.sizeOf3
 v3:=Tryz.zeroValue3
 t4:=Tryz.underlying4
 a4:=Tryz.isAgg4
 z4:=Tryz.sizeOf4
 v4:=Tryz.zeroValue4
 t5:=Tryz.underlying5
 a5:=Tryz.isAgg5
 z5:=Tryz.sizeOf5
 v5:=Tryz.zeroValue5
 t9:=Tryz.underlying9
 a9:=Tryz.isAgg9
 z9:=Tryz.sizeOf9
 v9:=Tryz.zeroValue9
 t22:=Tryz.underlying27
 a22:=Tryz.isAgg27
 z22:=Tryz.sizeOf27
 v22:=Tryz.zeroValue27
 t25:=Tryz.underlying187
 a25:=Tryz.isAgg187
 z25:=Tryz.sizeOf187
 v25:=Tryz.zeroValue187
 t39:=Tryz.underlying145
 a39:=Tryz.isAgg145
 z39:=Tryz.sizeOf145
 v39:=Tryz.zeroValue145
 t45:=Tryz.underlying215
 a45:=Tryz.isAgg215
 z45:=Tryz.sizeOf215
 v45:=Tryz.zeroValue215
 t46:=Tryz.underlying216
 a46:=Tryz.isAgg216
 z46:=Tryz.sizeOf216
 v46:=Tryz.zeroValue216
 t50:=Tryz.underlying208
 a50:=Tryz.isAgg208
 z50:=Tryz.sizeOf208
 v50:=Tryz.zeroValue208
 t53:=Tryz.underlying222
 a53:=Tryz.isAgg222
 z53:=Tryz.sizeOf222
 v53:=Tryz.zeroValue222
 t55:=Tryz.underlying224
 a55:=Tryz.isAgg224
 z55:=Tryz.sizeOf224
 v55:=Tryz.zeroValue224
 t66:=Tryz.underlying227
 a66:=Tryz.isAgg227
 z66:=Tryz.sizeOf227
 v66:=Tryz.zeroValue227
 t70:=Tryz.underlying231
 a70:=Tryz.isAgg231
 z70:=Tryz.sizeOf231
 v70:=Tryz.zeroValue231
 t76:=Tryz.underlying233
 a76:=Tryz.isAgg233
 z76:=Tryz.sizeOf233
 v76:=Tryz.zeroValue233
 t77:=Tryz.underlying234
 a77:=Tryz.isAgg234
 z77:=Tryz.sizeOf234
 v77:=Tryz.zeroValue234
def revL_ren:Go.Shelf.Ren:=⟨fun|35=>183|n=>n,fun|0=>0|3=>3|4=>4|22=>27|23=>61|n=>n,fun n=>n⟩
theorem revL:SlLaysE0.n35 Tryz.prog revL_ren where
 mixed:=by kernel_rfl
 f35:=⟨"slices.Reverse[[]loop.example/g00811/impl.Vec,loop.example/g00811/impl.Vec]",by decide,Tryz.func183.trans (congrArg some (by kernel_rfl))⟩
 t0:=Tryz.underlying0
 a0:=Tryz.isAgg0
 z0:=Tryz.sizeOf0
 v0:=Tryz.zeroValue0
 t3:=Tryz.underlying3
 a3:=Tryz.isAgg3
 z3:=Tryz.sizeOf3
 v3:=Tryz.zeroValue3
 t4:=Tryz.underlying4
 a4:=Tryz.isAgg4
 z4:=Tryz.sizeOf4
 v4:=Tryz.zeroValue4
 t22:=Tryz.underlying27
 a22:=Tryz.isAgg27
 z22:=Tryz.sizeOf27
 v22:=Tryz.zeroValue27
end Go.Proofs.YtbnkojgcbmfloaaGreat.DW

namespace Go.Proofs.YtbnkojgcbmfloaaGreat.DW
open Go.RowKit Go.Sort Go.Shelf
abbrev OV:={ v:DV // okV v=true }
instance:Inhabited OV:=⟨⟨(0,0),by decide⟩⟩
def encO (x:OV):List Value:=encV x.1
def cfO (x y:OV):Int:=cfV x.1 y.1
set_option maxHeartbeats 1000000 in
theorem compareVecs_any (a b:DV) (ha:okV a=true) (hb:okV b=true) (W:World):Calls Tryz.prog 180 #[.agg #[.int .i64 a.1,.int .i64 a.2],.agg #[.int .i64 b.1,.int .i64 b.2]] W fun e w'=>e=.returned (.int .i64 (cfV a b))/\∃ q os',w'=grow (W.drewN q) os':=by
 obtain ⟨a1,a2⟩:=a
 obtain ⟨b1,b2⟩:=b
 obtain ⟨p1,p2,p3,p4⟩:=okV_b ha
 obtain ⟨q1,q2,q3,q4⟩:=okV_b hb
 simp only at p1 p2 p3 p4 q1 q2 q3 q4
 clear ha hb
 unfold cfV
 by_cases h:a1=b1
 ·subst h
  simp only [if_true]
  go_enter Tryz.func180,Tryz.ntmps180
  go_wp2
  go_ret
  exact ⟨rfl,0,_,by rw [alloc_eq_grow,alloc_eq_grow,grow_grow]; rfl⟩
 ·simp only [h,if_false]
  go_enter Tryz.func180,Tryz.ntmps180
  go_wp2
  go_ret
  exact ⟨rfl,0,_,by rw [alloc_eq_grow,alloc_eq_grow,grow_grow]; rfl⟩
theorem cmpLays (blk off size:Nat) (w:World):CmpLays Tryz.prog 180 #[] encO 2 cfO blk off size w :=
 fun _ _ _ _ x y=>compareVecs_any x.1 y.1 x.2 y.2 _
theorem flat_val (d:List OV):flatK encO 2 d.toArray=flatK encV 2 (d.map Subtype.val).toArray:=by
 refine ext_get! (by simp) fun t ht=>?_
 have ht':t < d.length * 2:=by simpa using ht
 rw [get_flatK _ _ _ t (by simpa using ht'),get_flatK _ _ _ t (by simpa using ht'),getElem!_pos d.toArray (t / 2) (by simp; omega),getElem!_pos (d.map Subtype.val).toArray (t / 2) (by simp; omega),List.getElem_toArray,List.getElem_toArray,List.getElem_map]
 rfl
theorem swoO:SWO (ltOf cfO) where
 irrefl x:=by
  have:=cfV_lt x.1 x.1
  show decide (cfV x.1 x.1 < 0)=false
  rw [decide_eq_false_iff_not,this]
  exact ltV_irrefl _
 trans x y z h1 h2:=by
  have h1:=(cfV_lt x.1 y.1).1 (of_decide_eq_true h1)
  have h2:=(cfV_lt y.1 z.1).1 (of_decide_eq_true h2)
  exact decide_eq_true ((cfV_lt x.1 z.1).2 (ltV_trans h1 h2))
 ntrans x y z h1 h2:=by
  have h1:=fun h=>of_decide_eq_false h1 ((cfV_lt x.1 y.1).2 h)
  have h2:=fun h=>of_decide_eq_false h2 ((cfV_lt y.1 z.1).2 h)
  refine decide_eq_false fun h=>?_
  have h:=(cfV_lt x.1 z.1).1 h
  rcases ltV_tri x.1 y.1 with k|k|k
  ·exact h1 k
  ·exact h2 (k ▸ h)
  ·exact h2 (ltV_trans k h)
theorem totO (x y:OV) (h1:(ltOf cfO) x y=false) (h2:(ltOf cfO) y x=false):x=y:=by
 have h1:=fun h=>of_decide_eq_false h1 ((cfV_lt x.1 y.1).2 h)
 have h2:=fun h=>of_decide_eq_false h2 ((cfV_lt y.1 x.1).2 h)
 rcases ltV_tri x.1 y.1 with k|k|k
 ·exact (h1 k).elim
 ·exact Subtype.ext k
 ·exact (h2 k).elim
theorem exO:∀ l:List DV,(∀ v ∈ l,okV v=true)->∃ d:List OV,d.map Subtype.val=l
 | [],_=>⟨[],rfl⟩
 | v :: l,h=>by
  obtain ⟨d,hd⟩:=exO l fun x hx=>h x (List.mem_cons_of_mem _ hx)
  exact ⟨⟨v,h v List.mem_cons_self⟩ :: d,by rw [List.map_cons,hd]⟩
theorem sort_fn (l:List DV) (hl:∀ v ∈ l,okV v=true) (h0:0 < l.length) (hn:l.length<=1048576):FnR Tryz.prog 179 [.fn 180] 61 tVec l (l.mergeSort leB) false:=by
 obtain ⟨d,rfl⟩:=exO l hl
 refine FnR.of (enters_of Tryz.func179 (by kernel_rfl) rfl) h0 false fun hI w g cap hg hc hcm hH=>?_
 have hH':HoldsK encO 2 w g 0 d.toArray:=by unfold HoldsK; rw [flat_val]; exact hH
 have hdl:d.toArray.size=(d.map Subtype.val).length:=by simp
 have eg:∀ args w,(callFunc 180 args).run Tryz.prog w=.ok (.enter 180 args) w:=enters_of Tryz.func180 (by kernel_rfl) rfl
 have hcon:=AnyQ.slices_SortFunc_total sortL 2 Tryz.isAgg61 Tryz.sizeOf61 encO (fun _=>rfl) (fun x v hv=>by simp [encO,encV] at hv; rcases hv with rfl|rfl<;>rfl) cfO swoO 180 #[] g 0 cap d.toArray w eg (cmpLays g 0 _ w) hH' hg (by rw [hdl]; omega) totO
 rw [hdl] at hcon
 have hms:((d.mergeSort fun x y=>!(ltOf cfO) y x).map Subtype.val)=(d.map Subtype.val).mergeSort leB:=List.map_mergeSort fun a _ b _=>rfl
 refine Calls.mono hcon ?_
 rintro e w' ⟨rfl,n,os,rfl⟩
 refine ⟨(d.map Subtype.val).mergeSort leB,n,os,rfl,fun _=>List.length_mergeSort _,List.length_mergeSort _,fun x hx=>.inl ((List.mergeSort_perm _ _).mem_iff.1 hx),(List.take_length ..).symm,Nat.le_refl _,?_⟩
 unfold sortWorldK putRowK
 rw [<-hms,<-flat_val]
theorem reverse_fn (l:List DV) (h0:0 < l.length) (hn:l.length<=1048576):FnR Tryz.prog 183 [] 61 tVec l l.reverse false:=by
 refine FnR.of (enters_of Tryz.func183 (by kernel_rfl) rfl) h0 false fun hI w g cap hg hc hcm hH=>?_
 have hcon:=AnyQ.slices_Reverse revL 2 Tryz.isAgg61 Tryz.sizeOf61 encV (fun _=>rfl) (fun x v hv=>by simp [encV] at hv; rcases hv with rfl|rfl<;>rfl) g 0 cap l.toArray w hH (by simp; omega)
 have hdl:l.toArray.size=l.length:=by simp
 rw [hdl] at hcon
 refine Calls.mono hcon ?_
 rintro e w' ⟨rfl,n,rfl⟩
 refine ⟨l.reverse,n,#[],rfl,fun _=>List.length_reverse,List.length_reverse,fun x hx=>.inl (List.mem_reverse.1 hx),(List.take_length ..).symm,Nat.le_refl _,?_⟩
 unfold sortWorldK
 rw [grow_empty,List.reverse_toArray]
end Go.Proofs.YtbnkojgcbmfloaaGreat.DW

namespace Go.Proofs.YtbnkojgcbmfloaaGreat.DW
open Go.RowKit Go.Sort Go.Lib
theorem cmpD_snoc (y x:DV):∀ l:List DV,cmpD (l++[y,x])=cmpD (l++[y])++(if y=x then [] else [x])
 | []=>by
  show (if y=x then cmpD [x] else y :: cmpD [x])=[y]++_
  by_cases h:y=x
  ·rw [if_pos h,if_pos h,h]; rfl
  ·rw [if_neg h,if_neg h]; rfl
 | [a]=>by
  show (if a=y then cmpD [y,x] else a :: cmpD [y,x])=(if a=y then cmpD [y] else a :: cmpD [y])++_
  have ih:=cmpD_snoc y x []
  simp only [List.nil_append] at ih
  by_cases h:a=y
  ·rw [if_pos h,if_pos h,ih]
  ·rw [if_neg h,if_neg h,ih]; rfl
 | a :: b :: l=>by
  show (if a=b then cmpD (b :: (l++[y,x])) else a :: cmpD (b :: (l++[y,x])))=(if a=b then cmpD (b :: (l++[y])) else a :: cmpD (b :: (l++[y])))++_
  have ih:=cmpD_snoc y x (b :: l)
  simp only [List.cons_append] at ih
  by_cases h:a=b
  ·rw [if_pos h,if_pos h,ih]
  ·rw [if_neg h,if_neg h,ih]; rfl
theorem cpt_take (l:List DV):∀ m,m<=l.length->compactUpTo l.toArray m=cmpD (l.take m)
 | 0,_=>rfl
 | 1,h=>by
  rw [compactUpTo_succ,keeps_lt_one _ 0 (by decide),if_pos rfl]
  have e:l.take 1=[l[0]'(by omega)]:=by rw [List.take_add_one,List.getElem?_eq_getElem (by omega)]; rfl
  rw [e,getElem!_pos l.toArray 0 (by simp; omega)]
  rfl
 | m+2,h=>by
  have ih:=cpt_take l (m+1) (by omega)
  have e1:l.take (m+1)=l.take m++[l[m]'(by omega)]:=by rw [List.take_add_one,List.getElem?_eq_getElem (by omega)]; rfl
  have e2:l.take (m+2)=l.take m++[l[m]'(by omega),l[m+1]'(by omega)]:=by
   rw [List.take_add_one,List.getElem?_eq_getElem (by omega),e1,List.append_assoc]; rfl
  rw [compactUpTo_succ,ih,e2,cmpD_snoc,e1]
  have g1:l.toArray[m+1]! = l[m+1]'(by omega):=by rw [getElem!_pos l.toArray (m+1) (by simp; omega)]; rfl
  have g0:l.toArray[m+1 - 1]! = l[m]'(by omega):=by rw [Nat.add_sub_cancel,getElem!_pos l.toArray m (by simp; omega)]; rfl
  by_cases h2:l[m]'(by omega)=l[m+1]'(by omega)
  ·rw [keeps_neg (by omega) (by rw [g1,g0,h2]),if_pos h2]; rfl
  ·rw [keeps_pos (by rw [g1,g0]; exact fun h=>h2 h.symm),if_neg h2,if_pos rfl,g1]
theorem cpt_all (l:List DV):compactUpTo l.toArray l.length=cmpD l:=by
 rw [cpt_take l _ (Nat.le_refl _),List.take_length]
theorem setMany_one (d:Array DV) {i:Nat} (hi:i < d.size) (x:DV):setMany (flatK encV 2 d) (i * 2) (encV x)=flatK encV 2 (d.setIfInBounds i x):=by
 refine ext_get! (by simp) fun t ht=>?_
 have ht':t < d.size * 2:=by simpa using ht
 rw [get_setMany _ _ _ t (by simpa using ht'),get_flatK _ _ _ t ht',get_flatK _ _ _ t (by simpa using ht')]
 show (if i * 2<=t/\t < i * 2+2 then _ else _)=_
 by_cases h:t / 2=i
 ·rw [if_pos ⟨by omega,by omega⟩]
  subst h
  rw [getElem!_set_same d _ x hi,show t - t / 2 * 2=t % 2 by omega]
 ·rw [if_neg (by omega),getElem!_set_other d i _ x h]
theorem setMany_zero (d:Array DV) {k:Nat} (hk:k<=d.size) (r:List DV) (hr:r.length=k) (hlow:∀ j,j < k->r[j]? = some d[j]!) :
  setMany (flatK encV 2 d) (k * 2) (List.replicate ((d.size - k) * 2) (.int .i64 0))=flatK encV 2 (r++List.replicate (d.size - k) (0,0)).toArray:=by
 have hsz:(r++List.replicate (d.size - k) ((0:Int),(0:Int))).toArray.size=d.size:=by simp [hr]; omega
 refine ext_get! (by rw [size_setMany,size_flatK,size_flatK,hsz]) fun t ht=>?_
 have ht':t < d.size * 2:=by simpa using ht
 rw [get_setMany _ _ _ t (by simpa using ht'),get_flatK _ _ _ t ht',get_flatK _ _ _ t (by rw [hsz]; exact ht'),List.length_replicate]
 by_cases h:t / 2 < k
 ·rw [if_neg (by omega)]
  have h1:=hlow _ h
  have h2:(r++List.replicate (d.size - k) ((0:Int),(0:Int))).toArray[t / 2]! = d[t / 2]!:=by
   rw [getElem!_pos _ _ (by rw [hsz]; omega)]
   rw [List.getElem_toArray,List.getElem_append_left (by omega)]
   rw [List.getElem?_eq_getElem (by omega)] at h1
   injection h1
  rw [h2]
 ·rw [if_pos ⟨by omega,by omega⟩]
  have h2:(r++List.replicate (d.size - k) ((0:Int),(0:Int))).toArray[t / 2]! = (0,0):=by
   rw [getElem!_pos _ _ (by rw [hsz]; omega)]
   rw [List.getElem_toArray,List.getElem_append_right (by omega),List.getElem_replicate]
  rw [h2,getElem!_pos _ _ (by simp; omega),List.getElem_replicate]
  have h3:t % 2=0\/t % 2=1:=by omega
  rcases h3 with h3|h3<;>rw [h3]<;>rfl
end Go.Proofs.YtbnkojgcbmfloaaGreat.DW

namespace Go.Proofs.YtbnkojgcbmfloaaGreat.DW
open Go.RowKit Go.Sort Go.Lib
theorem vecT:vecTy Tryz.prog 61=true:=by kernel_rfl
theorem run_clear_vec (w:World) (ty:TypeId) (b o n c:Nat) (hn:0 < n)
  (hc:∀ j,j < n * 2->(w.cell? ⟨b,o+j,none⟩).isSome=true) (hf:∀ j,j < n * 2->w.frozen? ⟨b,o+j,none⟩=false) :
  (Builtin.clear_ #[27] ty #[.slice (some ⟨b,o,none⟩) n c]).run Tryz.prog w=.ok (.tuple #[]) (w.setCells b o (List.replicate (n * 2) (.int .i64 0))):=by
 have hzc:(Builtin.zeroCells (Value.agg #[.int .i64 0,.int .i64 0]).cells n).toList=List.replicate (n * 2) (.int .i64 0):=by
  apply List.ext_getElem
  ·simp [Builtin.zeroCells,Value.cells]
  ·intro i h1 h2
   simp only [Builtin.zeroCells,Value.cells,Array.toList_map,Array.toList_range,List.getElem_map,List.getElem_range,List.getElem_replicate]
   have:i % 2=0\/i % 2=1:=by omega
   show (#[Value.int .i64 0,Value.int .i64 0])[i % 2]! = _
   rcases this with h|h<;>rw [h]<;>rfl
 have hst:=run_storeCells_cells (P:=Tryz.prog) b o (List.replicate (n * 2) (.int .i64 0)) 0 w (by simpa using hc) (by simpa using hf) (by intro v hv'; rw [List.eq_of_mem_replicate hv']; rfl)
 simp only [Nat.add_zero] at hst
 obtain ⟨m,rfl⟩:∃ m,n=m+1:=⟨n - 1,by omega⟩
 have hz:=Tryz.zeroValue61
 have hu:=Tryz.underlying27
 simp [Builtin.clear_,run_underlying hu,hz,hzc,hst]
theorem store_world_v {w wr:World} {n blk off:Nat} {dk:Array DV} {i:Nat} (hi:i < dk.size) (hwr:wr=putRowK encV 2 (Sort.ahead w n) blk off dk) (a b:Int) :
  ((wr.setCell ⟨blk,off+i * 2,none⟩ (.int .i64 a)).setCell ⟨blk,off+i * 2+1,none⟩ (.int .i64 b)).drew=putRowK encV 2 (Sort.ahead w (n+1)) blk off (dk.setIfInBounds i (a,b)):=by
 subst hwr
 have h:=setCells_putRow (Sort.ahead w n) blk off (encV (a,b)) (i * 2) (flatK encV 2 dk) (by rw [size_flatK]; show i * 2+2<=_; omega)
 rw [setMany_one dk hi (a,b)] at h
 have h2:((putRowK encV 2 (Sort.ahead w n) blk off dk).setCell ⟨blk,off+i * 2,none⟩ (.int .i64 a)).setCell ⟨blk,off+i * 2+1,none⟩ (.int .i64 b)=putRow id (Sort.ahead w n) blk off (flatK encV 2 (dk.setIfInBounds i (a,b))):=h
 rw [h2,putRow_drew,ahead_drew]
 rfl
set_option maxHeartbeats 4000000 in
theorem compact_any (blk off cap:Nat) (d:Array DV) (w:World) (hH:HoldsK encV 2 w blk off d) (hsz:d.size<=9223372036854775807) (hcap:d.size<=cap) :
  Calls Tryz.prog 181 #[.slice (some ⟨blk,off,none⟩) d.size cap] w fun e w'=>e=.returned (.slice (some ⟨blk,off,none⟩) (compactUpTo d d.size).length cap)/\∃ q,w'=putRowK encV 2 (Sort.ahead w q) blk off (compactUpTo d d.size++List.replicate (d.size - (compactUpTo d d.size).length) (0,0)).toArray:=by
 have heq':∀ (a b c d:Int) (w:World),Sem.run Tryz.prog (binOp .eql 61 (.agg #[.int .i64 a,.int .i64 b]) (.agg #[.int .i64 c,.int .i64 d])) w=.ok (.bool (decide (a=c) && decide (b=d))) w:=fun a b c d w=>by rw [run_eql_struct,vec_eq vecT]; rfl
 have hne':∀ (a b c d:Int) (w:World),Sem.run Tryz.prog (binOp .neq 61 (.agg #[.int .i64 a,.int .i64 b]) (.agg #[.int .i64 c,.int .i64 d])) w=.ok (.bool (!(decide (a=c) && decide (b=d)))) w:=fun a b c d w=>by rw [run_neq_struct,vec_eq vecT]; rfl
 have hgd':∀ (op:BinOp) (x y:Operand) (a b c d:Int) (w:World),Sem.run Tryz.prog (eqGuard op 61 x y (.agg #[.int .i64 a,.int .i64 b]) (.agg #[.int .i64 c,.int .i64 d])) w=.ok () w:=fun op x y a b c d w=>run_eqGuard_agg w op _ x y _ _ (vecTy_g vecT)
 have same:∀ q,(∀ j,j < d.size->keeps d j=true)->(compactUpTo d d.size).length=d.size/\w.drewN q=putRowK encV 2 (Sort.ahead w q) blk off (compactUpTo d d.size++List.replicate (d.size - (compactUpTo d d.size).length) (0,0)).toArray:=by
  intro q hall
  have e:compactUpTo d d.size=d.toList:=by rw [compactUpTo_all d _ hall,range_map_get]
  rw [e]
  refine ⟨by simp,?_⟩
  simp only [Array.length_toList,Nat.sub_self,List.replicate_zero,List.append_nil,Array.toArray_toList]
  exact (putRowK_self encV 2 (Sort.ahead w q) blk off d (holdsK_ahead encV 2 w q blk off d hH)).symm
 have HS:Aside (∀ q,(∀ j,j < d.size->keeps d j=true)->(compactUpTo d d.size).length=d.size/\w.drewN q=putRowK encV 2 (Sort.ahead w q) blk off (compactUpTo d d.size++List.replicate (d.size - (compactUpTo d d.size).length) (0,0)).toArray):=same
 clear same
 have mixed:Tryz.prog.follows .mixedOrders=true:=mixes
 have encat:∀ x:DV,(encV x)[0]! = .int .i64 x.1/\(encV x)[1]! = .int .i64 x.2:=fun x=>⟨rfl,rfl⟩
 by_cases h2:d.size < 2
 ·have HH:Aside (HoldsK encV 2 w blk off d):=hH
  clear hH
  go_enter Tryz.func181,Tryz.ntmps181
  go_wp2
  go_ret
  obtain ⟨e1,e2⟩:=HS.out 0 (fun j hj=>keeps_lt_one d j (by omega))
  exact ⟨by rw [e1]; rfl,0,e2⟩
 ·go_enter Tryz.func181,Tryz.ntmps181
  go_wp2
  go_loopg [3] d.size (fun g s3 wr=>∃ k q:Nat,1<=k/\k<=d.size/\d.size - k<=g/\s3=.int .i64 k/\wr=w.drewN q/\∀ j,j < k->keeps d j=true)
  case atStart=>exact ⟨1,0,Nat.le_refl _,by omega,by omega,rfl,rfl,keeps_lt_one d⟩
  case round =>
   obtain ⟨k,q,hk1,hk,hg,rfl,rfl,hall⟩:=hrel
   by_cases hlt:k < d.size
   ·obtain ⟨c1,f1⟩:=hH.cell hlt (c:=0) (by decide)
    obtain ⟨c1',f1'⟩:=hH.cell hlt (c:=1) (by decide)
    obtain ⟨c0,f0⟩:=hH.cell (i:=k - 1) (by omega) (c:=0) (by decide)
    obtain ⟨c0',f0'⟩:=hH.cell (i:=k - 1) (by omega) (c:=1) (by decide)
    rw [(encat _).1] at c1 c0
    rw [(encat _).2] at c1' c0'
    rw [Nat.add_zero] at c1 c0 f1 f0
    have A:Aside (∀ j,j < k->keeps d j=true):=hall
    have HH:Aside (HoldsK encV 2 w blk off d):=hH
    clear hall hH
    generalize hx:d[k]! = x at c1 c1'
    generalize hy:d[k - 1]! = y at c0 c0'
    have B:Aside (d[k]! = x/\d[k - 1]! = y):=⟨hx,hy⟩
    clear hx hy
    obtain ⟨x1,x2⟩:=x
    obtain ⟨y1,y2⟩:=y
    simp only at c1 c1' c0 c0'
    have hbe:(decide (x1=y1) && decide (x2=y2))=decide ((x1,x2)=(y1,y2)):=by
     by_cases e1:x1=y1<;>by_cases e2:x2=y2<;>simp [e1,e2]
    by_cases hdup:((x1,x2):DV)=(y1,y2)
    ·injection hdup with h1 h2'
     subst h1 h2'
     go_wp2_with fail
     go_region_o
     go_wp2
     clear c0 c1 c0' c1' f0 f1 f0' f1'
     go_loopg [3,5] d.size (fun g s3 s5 wr=>∃ (kk k2 q2:Nat) (dk:Array DV),s3=.int .i64 kk/\s5=.int .i64 k2/\1<=k2/\k+k2<=d.size/\d.size - (k+k2)<=g/\wr=putRowK encV 2 (Sort.ahead w q2) blk off dk/\CompInv d (k+k2) kk dk)
     case atStart=>exact ⟨k,1,q+1,d,rfl,rfl,Nat.le_refl _,by omega,by omega,(putRowK_self encV 2 (Sort.ahead w (q+1)) blk off d (holdsK_ahead encV 2 w (q+1) blk off d HH.out)).symm,CompInv.start A.out (keeps_neg (by omega) (by rw [B.out.1,B.out.2]))⟩
     case round =>
      obtain ⟨kk,k2,q2,dk,rfl,rfl,h1,hle,hg2,hwr,hI⟩:=hrel
      have hkk:=hI.lt
      have hds:=hI.size
      have hHk:HoldsK encV 2 wr blk off dk:=by rw [hwr]; exact holdsK_putRowK encV 2 _ blk off d dk (holdsK_ahead encV 2 w q2 blk off d HH.out) hds
      have W2:Aside (wr=putRowK encV 2 (Sort.ahead w q2) blk off dk):=hwr
      have I2:Aside (CompInv d (k+k2) kk dk):=hI
      clear hwr
      by_cases hlt2:k+k2 < d.size
      ·obtain ⟨cm,_⟩:=hHk.cell (i:=k+k2) (by omega) (c:=0) (by decide)
       obtain ⟨cm',_⟩:=hHk.cell (i:=k+k2) (by omega) (c:=1) (by decide)
       obtain ⟨cp,_⟩:=hHk.cell (i:=k+k2 - 1) (by omega) (c:=0) (by decide)
       obtain ⟨cp',_⟩:=hHk.cell (i:=k+k2 - 1) (by omega) (c:=1) (by decide)
       obtain ⟨ck,fk⟩:=hHk.cell (i:=kk) (by omega) (c:=0) (by decide)
       obtain ⟨ck',fk'⟩:=hHk.cell (i:=kk) (by omega) (c:=1) (by decide)
       rw [hI.high (k+k2) (by omega),(encat _).1,show off+(k+k2) * 2+0=off+k * 2+k2 * 2 by omega] at cm
       rw [hI.high (k+k2) (by omega),(encat _).2,show off+(k+k2) * 2+1=off+k * 2+k2 * 2+1 by omega] at cm'
       rw [hI.high (k+k2 - 1) (by omega),(encat _).1,show off+(k+k2 - 1) * 2+0=off+k * 2+(k2 - 1) * 2 by omega] at cp
       rw [hI.high (k+k2 - 1) (by omega),(encat _).2,show off+(k+k2 - 1) * 2+1=off+k * 2+(k2 - 1) * 2+1 by omega] at cp'
       rw [(encat _).1,Nat.add_zero] at ck
       rw [(encat _).2] at ck'
       rw [Nat.add_zero] at fk
       clear hHk hI
       generalize hu:d[k+k2]! = u at cm cm'
       generalize hv:d[k+k2 - 1]! = v at cp cp'
       generalize dk[kk]! = old at ck ck'
       have C:Aside (d[k+k2]! = u/\d[k+k2 - 1]! = v):=⟨hu,hv⟩
       clear hu hv
       obtain ⟨u1,u2⟩:=u
       obtain ⟨v1,v2⟩:=v
       obtain ⟨o1,o2⟩:=old
       simp only at cm cm' cp cp' ck ck'
       by_cases huv:((u1,u2):DV)=(v1,v2)
       ·injection huv with e1 e2
        subst e1 e2
        go_wp2_with fail
        go_region_o
        go_wp2
        go_roundg (d.size - (k+(k2+1)))
        case measure=>omega
        case rel=>exact ⟨kk,k2+1,q2+1,dk,rfl,by go_num,by omega,by omega,Nat.le_refl _,by rw [W2.out]; rfl,I2.out.skip (keeps_neg (by omega) (by rw [C.out.1,C.out.2]))⟩
       ·have huv2:¬ (u1=v1/\u2=v2):=fun h=>huv (by rw [h.1,h.2])
        have hbe2:(decide (u1=v1) && decide (u2=v2))=false:=by
         by_cases e1:u1=v1<;>by_cases e2:u2=v2<;>simp [e1,e2]<;>exact huv2 ⟨e1,e2⟩
        have HU:Aside (¬ ((u1,u2):DV)=(v1,v2)):=huv
        clear huv huv2
        go_wp2_with fail
        go_region_o
        go_wp2
        go_roundg (d.size - (k+(k2+1)))
        case measure=>omega
        case rel=>exact ⟨kk+1,k2+1,q2+1,dk.setIfInBounds kk (u1,u2),by go_num,by go_num,by omega,by omega,Nat.le_refl _,store_world_v (by omega) W2.out u1 u2,by have:=I2.out.keep hlt2 (keeps_pos (by rw [C.out.1,C.out.2]; exact HU.out)); rwa [C.out.1] at this⟩
      ·have hend:k+k2=d.size:=by omega
       have hcl:∀ ty,(Builtin.clear_ #[27] ty #[.slice (some ⟨blk,off+kk * 2,none⟩) (d.size - kk) (cap - kk)]).run Tryz.prog wr=.ok (.tuple #[]) (wr.setCells blk (off+kk * 2) (List.replicate ((d.size - kk) * 2) (.int .i64 0))) :=
        fun ty=>run_clear_vec wr ty blk (off+kk * 2) _ _ (by omega) (fun j hj=>by
         have h:=(hHk (kk * 2+j) (by simp [hds]; omega)).1
         rw [show off+kk * 2+j=off+(kk * 2+j) by omega,h]; rfl) (fun j hj=>by
         have h:=(hHk (kk * 2+j) (by simp [hds]; omega)).2
         rw [show off+kk * 2+j=off+(kk * 2+j) by omega]; exact h)
       clear hHk hI
       go_wp2
       go_ret
       have hI:=I2.out
       rw [hend] at hI
       refine ⟨by rw [hI.len]; rfl,q2,?_⟩
       have hz:=setMany_zero dk (k:=kk) (by omega) (compactUpTo d d.size) hI.len hI.low
       rw [hI.len,W2.out]
       unfold putRowK
       rw [setCells_putRow _ _ _ _ _ _ (by rw [size_flatK,List.length_replicate]; omega),show d.size - kk=dk.size - kk by rw [hds],hz]
    ·have hbe2:(decide (x1=y1) && decide (x2=y2))=false:=by rw [hbe]; exact decide_eq_false hdup
     have HD:Aside (¬ ((x1,x2):DV)=(y1,y2)):=hdup
     clear hdup hbe
     go_wp2_with fail
     go_region_o
     go_wp2
     go_roundg (d.size - (k+1))
     case measure=>omega
     case rel =>
      refine ⟨k+1,q+1,by omega,by omega,Nat.le_refl _,by go_num,rfl,fun j hj=>?_⟩
      by_cases e:j=k
      ·subst e
       exact keeps_pos (by rw [B.out.1,B.out.2]; exact HD.out)
      ·exact A.out j (by omega)
   ·have:k=d.size:=by omega
    subst this
    have HH:Aside (HoldsK encV 2 w blk off d):=hH
    clear hH
    go_wp2
    go_ret
    obtain ⟨e1,e2⟩:=HS.out q hall
    exact ⟨by rw [e1]; rfl,q,e2⟩
theorem compact_fn (l:List DV) (h0:0 < l.length) (hn:l.length<=1048576):FnR Tryz.prog 181 [] 61 tVec l (cmpD l) true:=by
 refine FnR.of (enters_of Tryz.func181 (by kernel_rfl) rfl) h0 true fun hI w g cap hg hc hcm hH=>?_
 have hcon:=compact_any g 0 cap l.toArray w hH (by simp; omega) (by simpa using hc)
 have hdl:l.toArray.size=l.length:=by simp
 rw [hdl,cpt_all] at hcon
 refine Calls.mono hcon ?_
 rintro e w' ⟨rfl,n,rfl⟩
 have hcl:=cmpD_len (l:=l)
 refine ⟨cmpD l++List.replicate (l.length - (cmpD l).length) (0,0),n,#[],rfl,(fun h=>by cases h),?_,fun x hx=>?_,?_,?_,?_⟩
 ·rw [List.length_append,List.length_replicate]; omega
 ·rcases List.mem_append.1 hx with h|h
  ·exact .inl (cmpD_mem.1 h)
  ·exact .inr (List.eq_of_mem_replicate h)
 ·rw [List.take_left']; rfl
 ·rw [List.length_append]; omega
 ·unfold sortWorldK
  rw [grow_empty]
theorem cloneV_fn (l:List DV) (h0:0 < l.length) (hn:l.length<=1048576):FnG Tryz.prog 178 [⟨.slice tVec,l⟩] 61 tVec l:=by
 refine fnG_enter tabOK mixes Tryz.func178 rfl rfl _ Tryz.ntmps178 _ Tryz.results178 (by simp) fun hwf=>?_
 try simp (maxSteps:=9^9) only[go_sem]
 refine NilW.non (by intro e; rw [e] at h0; simp at h0) ?_
 try simp (maxSteps:=9^9) only[go_sem]
 repeat refine AI ?_
 exact ⟨0,1,rfl,rfl⟩
theorem HullOf_fn (l:List DV) (hl:∀ v ∈ l,okV v=true) (h0:0 < l.length) (hn:l.length<=64):Fn Tryz.prog 143 [⟨.slice tVec,l⟩] true [⟨.slice tVec,hullD l⟩]:=by
 have c1:=areVecs_fn l
 rw [any_okV_f hl] at c1
 have d0:=decide_eq_false (p:=(l.length:Int) > 64) (by omega)
 have c2:=cloneV_fn l h0 (by omega)
 have c3:=sort_fn l hl h0 (by omega)
 have hml:(l.mergeSort leB).length=l.length:=List.length_mergeSort _
 have c4:=compact_fn (l.mergeSort leB) (by omega) (by omega)
 have hsl:=srtD_len l
 have hsm:∀ v ∈ srtD l,okV v=true:=fun v hv=>hl v (srtD_mem.1 hv)
 have hcs:cmpD (l.mergeSort leB)=srtD l:=rfl
 rw [hcs] at c4
 refine fe Tryz.func143 Tryz.ntmps143 Tryz.results143 fun hwf=>?_
 try simp (maxSteps:=9^9) only[go_sem,d0]
 repeat refine AI ?_
 refine cw c1 ?_
 try simp (maxSteps:=9^9) only[go_sem]
 repeat refine AI ?_
 refine CallW.g (c2) ?_
 try simp (maxSteps:=9^9) only[go_sem]
 repeat refine AI ?_
 refine CallW.r (k:=0) (ver:=0) (o:=true) (c3) ?_
 try simp (maxSteps:=9^9) only[go_sem]
 repeat refine AI ?_
 refine CallW.r (k:=0) (ver:=0) (o:=true) (c4) ?_
 try simp (maxSteps:=9^9) only[go_sem]
 refine CondW_dec (fun hA=>?_) (fun hA=>?_)
 ·have hh:hullD l=srtD l:=by unfold hullD; rw [if_pos (by omega)]
  rw [hh]
  try simp (maxSteps:=9^9) only[go_sem]
 ·have hh:hullD l=chD (srtD l)++chD (srtD l).reverse:=by unfold hullD; rw [if_neg (by omega)]
  rw [hh]
  generalize srtD l=s at hsl hsm hA ⊢
  have c5:=chain_fn s hsm (by omega) (by omega)
  have c6:=reverse_fn s (by omega) (by omega)
  have hrl:s.reverse.length=s.length:=List.length_reverse
  have c7:=chain_fn s.reverse (fun v hv=>hsm v (List.mem_reverse.1 hv)) (by omega) (by omega)
  have q1:=chR_len s
  have q2:=chR_len s.reverse
  have q3:(chD s).length<=s.length:=by unfold chD; rw [List.length_dropLast,List.length_reverse]; omega
  have q4:(chD s.reverse).length<=s.length:=by unfold chD; rw [List.length_dropLast,List.length_reverse]; omega
  try simp (maxSteps:=9^9) only[go_sem]
  repeat refine AI ?_
  refine CallW.g (c5) ?_
  try simp (maxSteps:=9^9) only[go_sem]
  repeat refine AI ?_
  refine CallW.r (k:=0) (ver:=1) (o:=true) (c6) ?_
  try simp (maxSteps:=9^9) only[go_sem]
  repeat refine AI ?_
  refine CallW.g (c7) ?_
  try simp (maxSteps:=9^9) only[go_sem]
  repeat refine AI ?_
  omega
theorem natL_minInt:natL 9223372036854775808=[854775808,223372036,9]:=by
 rw [natL_pos (by decide),natL_pos (by decide),natL_pos (by decide),natL_zero]; rfl
theorem bigOf_fn (n:Int):Fn Tryz.prog 217 [⟨.int,n⟩] true [⟨tBig,bigD n⟩]:=by
 by_cases h0:0<=n
 ·have hn:¬ n < 0:=by omega
  have e:n.natAbs=n.toNat:=by omega
  refine fe Tryz.func217 Tryz.ntmps217 Tryz.results217 fun hwf=>?_
  try simp (maxSteps:=9^9) only[go_sem,h0,hn]
  repeat refine AI ?_
  refine cw (implNatOf_fn n) ?_
  try simp (maxSteps:=9^9) only[go_sem]
  rw [e]
  all_goals repeat refine AI ?_
  all_goals first|kernel_rfl|omega|rfl
 ·by_cases h1:n=-9223372036854775808
  ·subst h1
   have e:natL 9223372036854775807=natL (9223372036854775807:Int).toNat:=rfl
   have ha:=natAdd_fn (9223372036854775807:Int).toNat (1:Int).toNat (Nat.le_trans (natL_len3 (n:=9223372036854775807) (by decide)) (by decide)) (Nat.le_trans (nl_small (by decide)) (by decide))
   refine fe Tryz.func217 Tryz.ntmps217 Tryz.results217 fun hwf=>?_
   try simp (maxSteps:=9^9) only[go_sem]
   repeat refine AI ?_
   refine cw (implNatOf_fn 9223372036854775807) ?_
   try simp (maxSteps:=9^9) only[go_sem]
   repeat refine AI ?_
   refine cw (implNatOf_fn 1) ?_
   try simp (maxSteps:=9^9) only[go_sem]
   repeat refine AI ?_
   refine cw ha ?_
   try simp (maxSteps:=9^9) only[go_sem]
   all_goals repeat refine AI ?_
   all_goals first|kernel_rfl|omega|rfl
  ·have hn:n < 0:=by omega
   have e:n.natAbs=(-n).toNat:=by omega
   refine fe Tryz.func217 Tryz.ntmps217 Tryz.results217 fun hwf=>?_
   have hI:I64 n:=hwf ⟨.int,n⟩ (by simp)
   have hI1:=hI.1
   have hI2:=hI.2
   try simp (maxSteps:=9^9) only[go_sem,h0,h1]
   repeat refine AI ?_
   repeat refine AI ?_
   refine cw (implNatOf_fn (-n)) ?_
   try simp (maxSteps:=9^9) only[go_sem]
   rw [e]
   simp [hn]
theorem BigIntOf_fn (n:Int):Fn Tryz.prog 98 [⟨.int,n⟩] true [⟨tBig,bigD n⟩]:=by
 by_cases h1:n=-9223372036854775808
 ·subst h1
  have hm:=l03Make_to (s:=true) (n:=9223372036854775808) (z:=-9223372036854775808) rfl (Nat.le_trans (natL_len3 (n:=9223372036854775808) (by decide)) (by decide))
  rw [natL_minInt] at hm
  refine fe Tryz.func98 Tryz.ntmps98 Tryz.results98 fun hwf=>?_
  try simp (maxSteps:=9^9) only[go_sem]
  repeat refine AI ?_
  refine cw hm ?_
  try simp (maxSteps:=9^9) only[go_sem]
  all_goals repeat refine AI ?_
  all_goals first|kernel_rfl|omega|rfl
 ·refine fe Tryz.func98 Tryz.ntmps98 Tryz.results98 fun hwf=>?_
  have hI:I64 n:=hwf ⟨.int,n⟩ (by simp)
  have hI1:=hI.1
  have hI2:=hI.2
  try simp (maxSteps:=9^9) only[go_sem]
  refine CondW_dec (fun h=>absurd h h1) (fun _=>?_)
  try simp (maxSteps:=9^9) only[go_sem]
  refine CondW_dec (fun hn=>?_) (fun hn=>?_)
  ·have hm:=l03Make_to (s:=true) (n:=(-n).toNat) (z:=n) (by unfold sgn; simp; omega) (Nat.le_trans (natL_len3 (n:=-n) (by omega)) (by decide))
   try simp (maxSteps:=9^9) only[go_sem]
   repeat refine AI ?_
   repeat refine AI ?_
   refine cw (specNatOf_fn (-n)) ?_
   try simp (maxSteps:=9^9) only[go_sem]
   repeat refine AI ?_
   refine cw hm ?_
   try simp (maxSteps:=9^9) only[go_sem]
   all_goals repeat refine AI ?_
   all_goals first|kernel_rfl|omega|rfl
  ·have hm:=l03Make_to (s:=false) (n:=n.toNat) (z:=n) (by unfold sgn; simp; omega) (Nat.le_trans (natL_len3 (n:=n) (by omega)) (by decide))
   try simp (maxSteps:=9^9) only[go_sem]
   repeat refine AI ?_
   refine cw (specNatOf_fn n) ?_
   try simp (maxSteps:=9^9) only[go_sem]
   repeat refine AI ?_
   refine cw hm ?_
   try simp (maxSteps:=9^9) only[go_sem]
   all_goals repeat refine AI ?_
   all_goals first|kernel_rfl|omega|rfl
def ratI (n:Int):DR:=(bigD n,[1])
theorem ratI_eq (n:Int):ratI n=ratD (n:Rat):=by
 rw [ratI,ratD,Rat.num_intCast,Rat.den_intCast,natL_1]
attribute [go_sem] ratI
theorem ratInt_fn (n:Int):Fn Tryz.prog 176 [⟨.int,n⟩] true [⟨tRat,ratI n⟩]:=by
 refine fe Tryz.func176 Tryz.ntmps176 Tryz.results176 fun hwf=>?_
 try simp (maxSteps:=9^9) only[go_sem]
 repeat refine AI ?_
 refine cw (bigOf_fn n) ?_
 try simp (maxSteps:=9^9) only[go_sem]
 all_goals repeat refine AI ?_
 all_goals first|kernel_rfl|omega|rfl
theorem RatFromInt_fn (n:Int):Fn Tryz.prog 65 [⟨.int,n⟩] true [⟨tRat,ratI n⟩]:=by
 refine fe Tryz.func65 Tryz.ntmps65 Tryz.results65 fun hwf=>?_
 try simp (maxSteps:=9^9) only[go_sem]
 repeat refine AI ?_
 refine cw (BigIntOf_fn n) ?_
 try simp (maxSteps:=9^9) only[go_sem]
 all_goals repeat refine AI ?_
 all_goals first|kernel_rfl|omega|rfl
end Go.Proofs.YtbnkojgcbmfloaaGreat.DW

namespace Go.Proofs.YtbnkojgcbmfloaaGreat.DW
open Go.RowKit
theorem okR_len {r:DR} (h:okR r=true):r.1.2.length<=24/\r.2.length<=24:=by
 obtain ⟨p,hp,rfl,_⟩:=okR_t h
 exact hp
theorem addO_none_l (y:Option Rat):addO none y=none:=rfl
theorem addO_none_r (x:Option Rat):addO x none=none:=by cases x<;>rfl
theorem specRatAdd_fn (r s:DR):Fn Tryz.prog 265 [⟨tRat,r⟩,⟨tRat,s⟩] true [⟨tRat,oD (addO (rdO r) (rdO s))⟩]:=by
 cases hr:okR r
 ·rw [okR_f hr,addO_none_l]
  refine fe Tryz.func265 Tryz.ntmps265 Tryz.results265 fun hwf=>?_
  try simp (maxSteps:=9^9) only[go_sem]
  repeat refine AI ?_
  refine cw (specRatOk_fn r) ?_
  try simp (maxSteps:=9^9) only[go_sem]
  try simp (maxSteps:=9^9) only[go_sem,hr]
 ·cases hs:okR s
  ·rw [okR_f hs,addO_none_r]
   refine fe Tryz.func265 Tryz.ntmps265 Tryz.results265 fun hwf=>?_
   try simp (maxSteps:=9^9) only[go_sem]
   repeat refine AI ?_
   refine cw (specRatOk_fn r) ?_
   try simp (maxSteps:=9^9) only[go_sem]
   try simp (maxSteps:=9^9) only[go_sem,hr]
   repeat refine AI ?_
   refine cw (specRatOk_fn s) ?_
   try simp (maxSteps:=9^9) only[go_sem]
   try simp (maxSteps:=9^9) only[go_sem,hs]
  ·obtain ⟨p,hp,rfl,e1⟩:=okR_t hr
   obtain ⟨q,hq,rfl,e2⟩:=okR_t hs
   rw [e1,e2]
   have hr':okR ((decide (p.num < 0),natL p.num.natAbs),natL p.den)=true:=hr
   have hs':okR ((decide (q.num < 0),natL q.num.natAbs),natL q.den)=true:=hs
   have e:addO (some p) (some q)=capR (p+q):=rfl
   rw [e]
   refine fe Tryz.func265 Tryz.ntmps265 Tryz.results265 fun hwf=>?_
   try simp (maxSteps:=9^9) only[go_sem]
   repeat refine AI ?_
   refine cw (specRatOk_fn (ratD p)) ?_
   try simp (maxSteps:=9^9) only[go_sem]
   try simp (maxSteps:=9^9) only[go_sem,hr']
   repeat refine AI ?_
   refine cw (specRatOk_fn (ratD q)) ?_
   try simp (maxSteps:=9^9) only[go_sem]
   try simp (maxSteps:=9^9) only[go_sem,hs']
   repeat refine AI ?_
   refine cw (l04Add_fn p q hp hq) ?_
   try simp (maxSteps:=9^9) only[go_sem]
   all_goals repeat refine AI ?_
   all_goals first|kernel_rfl|omega|rfl
theorem cmpQ_self (p:Rat):cmpQ p p=0:=by
 rw [cmpQ_eq]; unfold cmpZ; rw [if_neg (Int.lt_irrefl _),if_neg (Int.lt_irrefl _)]
theorem mulO_none_l (y:Option Rat):mulO none y=none:=rfl
theorem mulO_none_r (x:Option Rat):mulO x none=none:=by cases x<;>rfl
theorem ratMul_fn (x y:Option Rat) (hx:okO x) (hy:okO y):Fn Tryz.prog 185 [⟨tRat,oD x⟩,⟨tRat,oD y⟩] true [⟨tRat,oD (mulO x y)⟩]:=by
 cases x with
 | none =>
  refine fe Tryz.func185 Tryz.ntmps185 Tryz.results185 fun hwf=>?_
  try simp (maxSteps:=9^9) only[go_sem]
  repeat refine AI ?_
  refine cw isGood_n ?_
  try simp (maxSteps:=9^9) only[go_sem]
  try simp (maxSteps:=9^9) only[go_sem,mulO]
 | some p =>
  cases y with
  | none =>
   refine fe Tryz.func185 Tryz.ntmps185 Tryz.results185 fun hwf=>?_
   try simp (maxSteps:=9^9) only[go_sem]
   repeat refine AI ?_
   refine cw (isGood_s p) ?_
   try simp (maxSteps:=9^9) only[go_sem]
   repeat refine AI ?_
   refine cw isGood_n ?_
   try simp (maxSteps:=9^9) only[go_sem]
   try simp (maxSteps:=9^9) only[go_sem,mulO]
  | some q =>
   obtain ⟨p1,p2⟩:=hx p rfl
   obtain ⟨q1,q2⟩:=hy q rfl
   have b1:=nl_mulI p.num q.num
   have b4:=nl_mul p.den q.den
   have hm:=ratMake_end (p.num * q.num) (p.den * q.den) (den_mul_ne p q) (by omega) (by omega)
   rw [<-mul_mk] at hm
   have e:mulO (some p) (some q)=capR (p * q):=rfl
   rw [e]
   refine fe Tryz.func185 Tryz.ntmps185 Tryz.results185 fun hwf=>?_
   try simp (maxSteps:=9^9) only[go_sem]
   repeat refine AI ?_
   refine cw (isGood_s p) ?_
   try simp (maxSteps:=9^9) only[go_sem]
   repeat refine AI ?_
   refine cw (isGood_s q) ?_
   try simp (maxSteps:=9^9) only[go_sem]
   repeat refine AI ?_
   refine cw (bigMul_fn p.num q.num (by omega) (by omega)) ?_
   try simp (maxSteps:=9^9) only[go_sem]
   repeat refine AI ?_
   refine cw (natMul_fn p.den q.den (by omega) (by omega)) ?_
   try simp (maxSteps:=9^9) only[go_sem]
   repeat refine AI ?_
   refine cw hm ?_
   try simp (maxSteps:=9^9) only[go_sem]
   all_goals repeat refine AI ?_
   all_goals first|kernel_rfl|omega|rfl
theorem sgn_mulZ (x y:Int):sgn (!decide (decide (x < 0)=decide (y < 0))) (x.natAbs * y.natAbs)=x * y:=by
 unfold sgn
 rw [Int.natCast_mul]
 by_cases h1:x < 0
 ·by_cases h2:y < 0
  ·simp only [h1,h2,decide_true,Bool.not_true,Bool.false_eq_true,if_false]
   rw [show (x.natAbs:Int)=-x by omega,show (y.natAbs:Int)=-y by omega,Int.neg_mul_neg]
  ·simp only [h1,h2,decide_true,decide_false,Bool.true_eq_false,Bool.not_false,if_true]
   rw [show (x.natAbs:Int)=-x by omega,show (y.natAbs:Int)=y by omega,Int.neg_mul,Int.neg_neg]
 ·by_cases h2:y < 0
  ·simp only [h1,h2,decide_true,decide_false,Bool.false_eq_true,Bool.not_false,if_true]
   rw [show (x.natAbs:Int)=x by omega,show (y.natAbs:Int)=-y by omega,Int.mul_neg,Int.neg_neg]
  ·simp only [h1,h2,decide_false,decide_true,Bool.not_true,Bool.false_eq_true,if_false]
   rw [show (x.natAbs:Int)=x by omega,show (y.natAbs:Int)=y by omega]
theorem l04Mul_fn (p q:Rat) (hp:small p) (hq:small q):Fn Tryz.prog 235 [⟨tRat,ratD p⟩,⟨tRat,ratD q⟩] true [⟨tRat,oD (capR (p * q))⟩]:=by
 obtain ⟨p1,p2⟩:=hp
 obtain ⟨q1,q2⟩:=hq
 have b1:=nl_mul p.num.natAbs q.num.natAbs
 have b4:=nl_mul p.den q.den
 have hl:=l04Low_fn (!decide (decide (p.num < 0)=decide (q.num < 0))) (p.num.natAbs * q.num.natAbs) (p.den * q.den) (den_mul_ne p q) (by omega) (by omega)
 rw [sgn_mulZ,<-mul_mk] at hl
 refine fe Tryz.func235 Tryz.ntmps235 Tryz.results235 fun hwf=>?_
 try simp (maxSteps:=9^9) only[go_sem]
 repeat refine AI ?_
 refine cw (l02Mul_fn p.num.natAbs q.num.natAbs (by omega) (by omega)) ?_
 try simp (maxSteps:=9^9) only[go_sem]
 repeat refine AI ?_
 refine cw (l02Mul_fn p.den q.den (by omega) (by omega)) ?_
 try simp (maxSteps:=9^9) only[go_sem]
 repeat refine AI ?_
 refine cw hl ?_
 try simp (maxSteps:=9^9) only[go_sem]
 all_goals repeat refine AI ?_
 all_goals first|kernel_rfl|omega|rfl
theorem specRatMul_fn (r s:DR):Fn Tryz.prog 203 [⟨tRat,r⟩,⟨tRat,s⟩] true [⟨tRat,oD (mulO (rdO r) (rdO s))⟩]:=by
 cases hr:okR r
 ·rw [okR_f hr,mulO_none_l]
  refine fe Tryz.func203 Tryz.ntmps203 Tryz.results203 fun hwf=>?_
  try simp (maxSteps:=9^9) only[go_sem]
  repeat refine AI ?_
  refine cw (specRatOk_fn r) ?_
  try simp (maxSteps:=9^9) only[go_sem]
  try simp (maxSteps:=9^9) only[go_sem,hr]
 ·cases hs:okR s
  ·rw [okR_f hs,mulO_none_r]
   refine fe Tryz.func203 Tryz.ntmps203 Tryz.results203 fun hwf=>?_
   try simp (maxSteps:=9^9) only[go_sem]
   repeat refine AI ?_
   refine cw (specRatOk_fn r) ?_
   try simp (maxSteps:=9^9) only[go_sem]
   try simp (maxSteps:=9^9) only[go_sem,hr]
   repeat refine AI ?_
   refine cw (specRatOk_fn s) ?_
   try simp (maxSteps:=9^9) only[go_sem]
   try simp (maxSteps:=9^9) only[go_sem,hs]
  ·obtain ⟨p,hp,rfl,e1⟩:=okR_t hr
   obtain ⟨q,hq,rfl,e2⟩:=okR_t hs
   rw [e1,e2]
   have hr':okR ((decide (p.num < 0),natL p.num.natAbs),natL p.den)=true:=hr
   have hs':okR ((decide (q.num < 0),natL q.num.natAbs),natL q.den)=true:=hs
   have e:mulO (some p) (some q)=capR (p * q):=rfl
   rw [e]
   refine fe Tryz.func203 Tryz.ntmps203 Tryz.results203 fun hwf=>?_
   try simp (maxSteps:=9^9) only[go_sem]
   repeat refine AI ?_
   refine cw (specRatOk_fn (ratD p)) ?_
   try simp (maxSteps:=9^9) only[go_sem]
   try simp (maxSteps:=9^9) only[go_sem,hr']
   repeat refine AI ?_
   refine cw (specRatOk_fn (ratD q)) ?_
   try simp (maxSteps:=9^9) only[go_sem]
   try simp (maxSteps:=9^9) only[go_sem,hs']
   repeat refine AI ?_
   refine cw (l04Mul_fn p q hp hq) ?_
   try simp (maxSteps:=9^9) only[go_sem]
   all_goals repeat refine AI ?_
   all_goals first|kernel_rfl|omega|rfl
theorem ratMin_fn (x y:Option Rat) (hx:okO x) (hy:okO y):Fn Tryz.prog 215 [⟨tRat,oD x⟩,⟨tRat,oD y⟩] false [⟨tRat,oD (minO x y)⟩]:=by
 cases x with
 | none =>
  refine fe Tryz.func215 Tryz.ntmps215 Tryz.results215 fun hwf=>?_
  try simp (maxSteps:=9^9) only[go_sem]
  repeat refine AI ?_
  refine cw isGood_n ?_
  try simp (maxSteps:=9^9) only[go_sem]
  try simp (maxSteps:=9^9) only[go_sem,minO]
 | some p =>
  cases y with
  | none =>
   refine fe Tryz.func215 Tryz.ntmps215 Tryz.results215 fun hwf=>?_
   try simp (maxSteps:=9^9) only[go_sem]
   repeat refine AI ?_
   refine cw (isGood_s p) ?_
   try simp (maxSteps:=9^9) only[go_sem]
   repeat refine AI ?_
   refine cw isGood_n ?_
   try simp (maxSteps:=9^9) only[go_sem]
   try simp (maxSteps:=9^9) only[go_sem,minO]
  | some q =>
   have hc:=ratCmp_fn (some p) (some q) hx hy
   have e:cmpO (some p) (some q)=cmpQ p q:=rfl
   rw [e] at hc
   by_cases h:cmpQ p q<=0
   ·have e2:minO (some p) (some q)=some p:=if_pos h
    rw [e2]
    refine fe Tryz.func215 Tryz.ntmps215 Tryz.results215 fun hwf=>?_
    try simp (maxSteps:=9^9) only[go_sem]
    repeat refine AI ?_
    refine cw (isGood_s p) ?_
    try simp (maxSteps:=9^9) only[go_sem]
    repeat refine AI ?_
    refine cw (isGood_s q) ?_
    try simp (maxSteps:=9^9) only[go_sem]
    repeat refine AI ?_
    refine cw hc ?_
    try simp (maxSteps:=9^9) only[go_sem]
    try simp (maxSteps:=9^9) only[go_sem,h]
   ·have e2:minO (some p) (some q)=some q:=if_neg h
    rw [e2]
    refine fe Tryz.func215 Tryz.ntmps215 Tryz.results215 fun hwf=>?_
    try simp (maxSteps:=9^9) only[go_sem]
    repeat refine AI ?_
    refine cw (isGood_s p) ?_
    try simp (maxSteps:=9^9) only[go_sem]
    repeat refine AI ?_
    refine cw (isGood_s q) ?_
    try simp (maxSteps:=9^9) only[go_sem]
    repeat refine AI ?_
    refine cw hc ?_
    try simp (maxSteps:=9^9) only[go_sem]
    try simp (maxSteps:=9^9) only[go_sem,h]
theorem specRatMin_fn (r s:DR):Fn Tryz.prog 240 [⟨tRat,r⟩,⟨tRat,s⟩] true [⟨tRat,oD (minO (rdO r) (rdO s))⟩]:=by
 cases hr:okR r
 ·rw [okR_f hr]
  have e:minO none (rdO s)=none:=rfl
  rw [e]
  refine fe Tryz.func240 Tryz.ntmps240 Tryz.results240 fun hwf=>?_
  try simp (maxSteps:=9^9) only[go_sem]
  repeat refine AI ?_
  refine cw (specRatOk_fn r) ?_
  try simp (maxSteps:=9^9) only[go_sem]
  try simp (maxSteps:=9^9) only[go_sem,hr]
 ·cases hs:okR s
  ·rw [okR_f hs]
   have e:minO (rdO r) none=none:=by unfold minO; cases rdO r<;>rfl
   rw [e]
   refine fe Tryz.func240 Tryz.ntmps240 Tryz.results240 fun hwf=>?_
   try simp (maxSteps:=9^9) only[go_sem]
   repeat refine AI ?_
   refine cw (specRatOk_fn r) ?_
   try simp (maxSteps:=9^9) only[go_sem]
   try simp (maxSteps:=9^9) only[go_sem,hr]
   repeat refine AI ?_
   refine cw (specRatOk_fn s) ?_
   try simp (maxSteps:=9^9) only[go_sem]
   try simp (maxSteps:=9^9) only[go_sem,hs]
  ·obtain ⟨p,hp,rfl,e1⟩:=okR_t hr
   obtain ⟨q,hq,rfl,e2⟩:=okR_t hs
   rw [e1,e2]
   have hr':okR ((decide (p.num < 0),natL p.num.natAbs),natL p.den)=true:=hr
   have hs':okR ((decide (q.num < 0),natL q.num.natAbs),natL q.den)=true:=hs
   by_cases h:cmpQ p q<=0
   ·have e3:minO (some p) (some q)=some p:=if_pos h
    rw [e3]
    refine fe Tryz.func240 Tryz.ntmps240 Tryz.results240 fun hwf=>?_
    try simp (maxSteps:=9^9) only[go_sem]
    repeat refine AI ?_
    refine cw (specRatOk_fn (ratD p)) ?_
    try simp (maxSteps:=9^9) only[go_sem]
    try simp (maxSteps:=9^9) only[go_sem,hr']
    repeat refine AI ?_
    refine cw (specRatOk_fn (ratD q)) ?_
    try simp (maxSteps:=9^9) only[go_sem]
    try simp (maxSteps:=9^9) only[go_sem,hs']
    repeat refine AI ?_
    refine cw (l04Cmp_fn p q hp hq) ?_
    try simp (maxSteps:=9^9) only[go_sem]
    try simp (maxSteps:=9^9) only[go_sem,h]
    repeat refine AI ?_
    refine cw (copyD_fn p hp) ?_
    try simp (maxSteps:=9^9) only[go_sem]
   ·have e3:minO (some p) (some q)=some q:=if_neg h
    rw [e3]
    refine fe Tryz.func240 Tryz.ntmps240 Tryz.results240 fun hwf=>?_
    try simp (maxSteps:=9^9) only[go_sem]
    repeat refine AI ?_
    refine cw (specRatOk_fn (ratD p)) ?_
    try simp (maxSteps:=9^9) only[go_sem]
    try simp (maxSteps:=9^9) only[go_sem,hr']
    repeat refine AI ?_
    refine cw (specRatOk_fn (ratD q)) ?_
    try simp (maxSteps:=9^9) only[go_sem]
    try simp (maxSteps:=9^9) only[go_sem,hs']
    repeat refine AI ?_
    refine cw (l04Cmp_fn p q hp hq) ?_
    try simp (maxSteps:=9^9) only[go_sem]
    try simp (maxSteps:=9^9) only[go_sem,h]
    repeat refine AI ?_
    refine cw (copyD_fn q hq) ?_
    try simp (maxSteps:=9^9) only[go_sem]
end Go.Proofs.YtbnkojgcbmfloaaGreat.DW

namespace Go.Proofs.YtbnkojgcbmfloaaGreat
open Go.RowKit
section
variable {o:Bool} {base:Nat} {w w':World} {e:TypeId} {v:Value} {l:List Int}
theorem GrowInt.row (h:Grow Rp.int o base w e v l):w.ownsRow base e 1 v l.length (l.map (Value.int .i64))/\∀ x ∈ l,I64 x:=by
 obtain ⟨xs,fps,ho,hl,he,_,_⟩:=h
 have hxl:xs.length=l.length:=by have:=ho.1; simpa [Rp.int] using this
 have hall:∀ (i:Nat) (x:Int),l[i]? = some x->xs[i]? = some (Value.int .i64 x)/\I64 x:=by
  intro i x hx
  obtain ⟨f,cs,_,hr,hc⟩:=he i x hx
  obtain ⟨rfl,_,hI⟩:=hr
  exact ⟨by simpa [Rp.int] using hc 0 _ rfl,hI⟩
 have hxs:xs=l.map (Value.int .i64):=by
  apply List.ext_getElem?
  intro i
  rw [List.getElem?_map]
  rcases Nat.lt_or_ge i l.length with hi|hi
  ·have:=(hall i l[i] (List.getElem?_eq_getElem hi)).1
   rw [this,List.getElem?_eq_getElem hi]; rfl
  ·rw [List.getElem?_eq_none (by omega),List.getElem?_eq_none hi]; rfl
 refine ⟨hxs ▸ ho,fun x hx=>?_⟩
 obtain ⟨i,hi,rfl⟩:=List.getElem_of_mem hx
 exact (hall i _ (List.getElem?_eq_getElem hi)).2
theorem flatten_nils (n:Nat):(List.replicate n ([]:List Nat)).flatten=[]:=by
 induction n with
 | zero=>rfl
 | succ n ih=>simp
theorem GrowInt.of (h:w.ownsRow base e 1 v l.length (l.map (Value.int .i64))) (hI:∀ x ∈ l,I64 x):Grow Rp.int o base w e v l:=by
 refine ⟨l.map (Value.int .i64),List.replicate l.length [],h,by simp,fun i x hx=>?_,fun b hb=>?_,fun _=>⟨?_,fun b hb=>?_⟩⟩
 ·have hi:=(List.getElem?_eq_some_iff.1 hx).1
  refine ⟨[],[.int .i64 x],by simp [hi],⟨rfl,rfl,hI x (List.mem_of_getElem? hx)⟩,fun j c hc=>?_⟩
  cases j with
  | zero=>simp at hc; subst hc; simp [Rp.int,hx]
  | succ j=>simp at hc
 ·rw [flatten_nils] at hb; cases hb
 ·rw [flatten_nils]; exact List.nodup_nil
 ·rw [flatten_nils] at hb; cases hb
end
section
variable {P:Program} (w:World)
end
theorem GrowInt.keep {o:Bool} {base:Nat} {w w':World} {e:TypeId} {v:Value} {l:List Int} (h:Grow Rp.int o base w e v l) {row:Option Nat} (hgr:w.grownBy w' row) (hne:∀ k,v.ownBlock=some k->some k ≠ row):Grow Rp.int o base w' e v l:=by
 obtain ⟨h1,h2⟩:=GrowInt.row h
 refine GrowInt.of (h1.kept hgr ?_) h2
 cases hv:v.ownBlock with
 | none=>exact .inl rfl
 | some k=>exact .inr (hne k hv)
end Go.Proofs.YtbnkojgcbmfloaaGreat

namespace Go.Proofs.YtbnkojgcbmfloaaGreat
open Go.RowKit
def New {α:Type} (A:Rp α) (base:Nat) (w:World) (cs:List Value) (a:α):Prop:=∃ fp,A.rep w cs a fp/\∀ b ∈ fp,base<=b
theorem Own.new {α:Type} {A:Rp α} {base:Nat} {w:World} {cs:List Value} {a:α} (h:Own A base w cs a):New A base w cs a:=let ⟨fp,hr,_,ho⟩:=h; ⟨fp,hr,fun b hb=>(ho b hb).1⟩
theorem New.has {α:Type} {A:Rp α} {base:Nat} {w:World} {cs:List Value} {a:α} (h:New A base w cs a):Has A w cs a:=let ⟨fp,hr,_⟩:=h; ⟨fp,hr⟩
theorem New.below {α:Type} {A:Rp α} {base:Nat} {w w':World} {cs:List Value} {a:α} (h:New A base w cs a) (hb:Below w.heap.size w w'):New A base w' cs a :=
 let ⟨fp,hr,ho⟩:=h; ⟨fp,A.frame hr fun b hb'=>hb.block b (A.lt hr b hb'),ho⟩
theorem New.mono {α:Type} {A:Rp α} {base base':Nat} {w:World} {cs:List Value} {a:α} (h:New A base w cs a) (hb:base'<=base):New A base' w cs a:=let ⟨fp,hr,ho⟩:=h; ⟨fp,hr,fun b hb'=>Nat.le_trans hb (ho b hb')⟩
theorem New.frame {α:Type} {A:Rp α} {base:Nat} {w w':World} {cs:List Value} {a:α} (h:New A base w cs a) (hf:∀ b,base<=b->b < w.heap.size->w'.heap[b]? = w.heap[b]?):New A base w' cs a :=
 let ⟨fp,hr,ho⟩:=h; ⟨fp,A.frame hr fun b hb'=>hf b (ho b hb') (A.lt hr b hb'),ho⟩
theorem New.setCell {α:Type} {A:Rp α} {base:Nat} {w:World} {cs:List Value} {a:α} (h:New A base w cs a) {p:Addr} (hp:p.block < base) (v:Value):New A base (w.setCell p v) cs a :=
 h.frame fun b h1 _=>Below.heap_setCell _ _ _ _ (by omega)
theorem New.pair {α β:Type} {A:Rp α} {B:Rp β} {base:Nat} {w:World} {a:α} {b:β} {cs1 cs2:List Value} (h1:New A base w cs1 a) (h2:New B base w cs2 b):New (Rp.prod A B) base w (cs1++cs2) (a,b) :=
 let ⟨f1,r1,o1⟩:=h1; let ⟨f2,r2,o2⟩:=h2; ⟨f1++f2,rep_pair r1 r2,fun b hb=>(List.mem_append.1 hb).elim (o1 b) (o2 b)⟩
theorem New.bool (base:Nat) (w:World) (b:Bool):New Rp.bool base w [.bool b] b:=⟨[],⟨rfl,rfl⟩,fun _ h=>by cases h⟩
theorem New.int (base:Nat) (w:World) {n:Int} (h:I64 n):New Rp.int base w [.int .i64 n] n:=⟨[],⟨rfl,rfl,h⟩,fun _ h=>by cases h⟩
theorem Has.pair {α β:Type} {A:Rp α} {B:Rp β} {w:World} {a:α} {b:β} {cs1 cs2:List Value} (h1:Has A w cs1 a) (h2:Has B w cs2 b):Has (Rp.prod A B) w (cs1++cs2) (a,b):=let ⟨f1,r1⟩:=h1; let ⟨f2,r2⟩:=h2; ⟨f1++f2,rep_pair r1 r2⟩
theorem Has.ofInt (w:World) {n:Int} (h:I64 n):Has Rp.int w [.int .i64 n] n:=⟨[],rfl,rfl,h⟩
end Go.Proofs.YtbnkojgcbmfloaaGreat

namespace Go.Proofs.YtbnkojgcbmfloaaGreat
open Go.RowKit DW
set_option maxHeartbeats 2000000 in
theorem pointOr_any (c0 c1 c2 c3 c4 c5:Value) (x:DPoint) (w:World) (hx:Has RPoint w [c0,c1,c2,c3,c4,c5] x) (hg:DW.Fn Tryz.prog 148 [⟨DW.tPoint,x⟩] false [⟨.bool,true⟩]) :
  Calls Tryz.prog 106 #[.agg #[c0,c1,c2,c3,c4,c5]] w (Post fun v w'=>v=.agg #[c0,c1,c2,c3,c4,c5]/\Below w.heap.size w w'):=by
 have HX:=Lib.hid hx
 have ho0:=hx.one 0 c0 rfl
 have ho1:=hx.one 1 c1 rfl
 have ho2:=hx.one 2 c2 rfl
 have ho3:=hx.one 3 c3 rfl
 have ho4:=hx.one 4 c4 rfl
 have ho5:=hx.one 5 c5 rfl
 have HG:=Lib.hid hg
 clear hx hg
 go_enter Tryz.func106,Tryz.ntmps106
 go_wp2_with fail
 have hp1:=((Below.refl w.heap.size w).alloc (Nat.le_refl _) (Obj.cells #[c0,c1,c2,c3,c4,c5] 33)).alloc (by simp<;>omega) (Obj.cells #[.bool false,.slice none 0 0,.slice none 0 0,.bool false,.slice none 0 0,.slice none 0 0] 33)
 refine (HG.out.bool (vs:=[.agg #[c0,c1,c2,c3,c4,c5]]) ⟨Arg.agg (t:=DW.tPoint) (cs:=[c0,c1,c2,c3,c4,c5]) rfl (HX.out.below hp1),trivial⟩).mono ?_
 rintro e w1 ⟨v,rfl,rfl,hc1⟩
 have hb1:=Below.up hp1 hc1 (by simp<;>omega)
 have hlt1:w.heap.size+1 < w1.heap.size:=Nat.lt_of_lt_of_le (by simp<;>omega) hc1.size
 obtain ⟨hcr1,hfr1⟩:=bcell hc1
 go_wp2
 refine bodyPost_ret (v:=.agg #[c0,c1,c2,c3,c4,c5]) (by simp [results,go_sem,hlt1,hcr1]) rfl ⟨_,rfl,rfl,?_⟩
 exact ((((((hb1).setCell (p:=⟨w.heap.size+1,0,none⟩) (by simp) c0).setCell (p:=⟨w.heap.size+1,1,none⟩) (by simp) c1).setCell (p:=⟨w.heap.size+1,2,none⟩) (by simp) c2).setCell (p:=⟨w.heap.size+1,3,none⟩) (by simp) c3).setCell (p:=⟨w.heap.size+1,4,none⟩) (by simp) c4).setCell (p:=⟨w.heap.size+1,5,none⟩) (by simp) c5
set_option maxHeartbeats 2000000 in
theorem l05Valid_any (c0 c1 c2 c3 c4 c5:Value) (x:DPoint) (w:World) (hx:Has RPoint w [c0,c1,c2,c3,c4,c5] x) (hg:DW.Fn Tryz.prog 117 [⟨DW.tPoint,x⟩] false [⟨.bool,true⟩]) :
  Calls Tryz.prog 165 #[.agg #[c0,c1,c2,c3,c4,c5]] w (Post fun v w'=>v=.agg #[c0,c1,c2,c3,c4,c5]/\Below w.heap.size w w'):=by
 have HX:=Lib.hid hx
 have ho0:=hx.one 0 c0 rfl
 have ho1:=hx.one 1 c1 rfl
 have ho2:=hx.one 2 c2 rfl
 have ho3:=hx.one 3 c3 rfl
 have ho4:=hx.one 4 c4 rfl
 have ho5:=hx.one 5 c5 rfl
 have HG:=Lib.hid hg
 clear hx hg
 go_enter Tryz.func165,Tryz.ntmps165
 go_wp2_with fail
 have hp1:=((Below.refl w.heap.size w).alloc (Nat.le_refl _) (Obj.cells #[c0,c1,c2,c3,c4,c5] 33)).alloc (by simp<;>omega) (Obj.cells #[.bool false,.slice none 0 0,.slice none 0 0,.bool false,.slice none 0 0,.slice none 0 0] 33)
 refine (HG.out.bool (vs:=[.agg #[c0,c1,c2,c3,c4,c5]]) ⟨Arg.agg (t:=DW.tPoint) (cs:=[c0,c1,c2,c3,c4,c5]) rfl (HX.out.below hp1),trivial⟩).mono ?_
 rintro e w1 ⟨v,rfl,rfl,hc1⟩
 have hb1:=Below.up hp1 hc1 (by simp<;>omega)
 have hlt1:w.heap.size+1 < w1.heap.size:=Nat.lt_of_lt_of_le (by simp<;>omega) hc1.size
 obtain ⟨hcr1,hfr1⟩:=bcell hc1
 go_wp2
 refine bodyPost_ret (v:=.agg #[c0,c1,c2,c3,c4,c5]) (by simp [results,go_sem,hlt1,hcr1]) rfl ⟨_,rfl,rfl,?_⟩
 exact ((((((hb1).setCell (p:=⟨w.heap.size+1,0,none⟩) (by simp) c0).setCell (p:=⟨w.heap.size+1,1,none⟩) (by simp) c1).setCell (p:=⟨w.heap.size+1,2,none⟩) (by simp) c2).setCell (p:=⟨w.heap.size+1,3,none⟩) (by simp) c3).setCell (p:=⟨w.heap.size+1,4,none⟩) (by simp) c4).setCell (p:=⟨w.heap.size+1,5,none⟩) (by simp) c5
end Go.Proofs.YtbnkojgcbmfloaaGreat

namespace Go.Proofs.YtbnkojgcbmfloaaGreat.DW
open Go.RowKit
abbrev ptZ:DP:=(rZ,rZ)
def ptO (x y:Option Rat):DP:=if x.isSome && y.isSome then (oD x,oD y) else ptZ
theorem isGoodPoint_fn (x y:Option Rat):Fn Tryz.prog 148 [⟨tPoint,(oD x,oD y)⟩] false [⟨.bool,x.isSome && y.isSome⟩]:=by
 cases hx:x.isSome
 ·refine fe Tryz.func148 Tryz.ntmps148 Tryz.results148 fun hwf=>?_
  try simp (maxSteps:=9^9) only[go_sem]
  repeat refine AI ?_
  refine cw (isGood_fn x) ?_
  try simp (maxSteps:=9^9) only[go_sem]
  try simp (maxSteps:=9^9) only[go_sem,hx]
  repeat refine AI ?_
 ·refine fe Tryz.func148 Tryz.ntmps148 Tryz.results148 fun hwf=>?_
  try simp (maxSteps:=9^9) only[go_sem]
  repeat refine AI ?_
  refine cw (isGood_fn x) ?_
  try simp (maxSteps:=9^9) only[go_sem]
  try simp (maxSteps:=9^9) only[go_sem,hx]
  repeat refine AI ?_
  refine cw (isGood_fn y) ?_
  try simp (maxSteps:=9^9) only[go_sem]
  repeat refine AI ?_
theorem pointOr_no (x y:Option Rat) (h:(x.isSome && y.isSome)=false):Fn Tryz.prog 106 [⟨tPoint,(oD x,oD y)⟩] true [⟨tPoint,ptZ⟩]:=by
 have h1:=isGoodPoint_fn x y
 rw [h] at h1
 refine fe Tryz.func106 Tryz.ntmps106 Tryz.results106 fun hwf=>?_
 try simp (maxSteps:=9^9) only[go_sem]
 repeat refine AI ?_
 refine cw h1 ?_
 try simp (maxSteps:=9^9) only[go_sem]
 all_goals repeat refine AI ?_
 all_goals first|kernel_rfl|omega|rfl
theorem pointOr_yes (x y:Option Rat) (h:(x.isSome && y.isSome)=true):FnS Tryz.prog 106 [⟨tPoint,(oD x,oD y)⟩] 0:=by
 have h1:=isGoodPoint_fn x y
 rw [h] at h1
 refine FnS.of1 (enters Tryz.func106 rfl rfl) rfl fun w cs hc=>?_
 obtain ⟨c0,c1,c2,c3,c4,c5,rfl⟩:=list6 hc.len
 exact pointOr_any c0 c1 c2 c3 c4 c5 _ w hc h1
theorem l05Valid_no (p:DP) (h:okPt p=false):Fn Tryz.prog 165 [⟨tPoint,p⟩] true [⟨tPoint,ptZ⟩]:=by
 have h1:=specIsValidPoint_fn p
 rw [h] at h1
 refine fe Tryz.func165 Tryz.ntmps165 Tryz.results165 fun hwf=>?_
 try simp (maxSteps:=9^9) only[go_sem]
 repeat refine AI ?_
 refine cw h1 ?_
 try simp (maxSteps:=9^9) only[go_sem]
 all_goals repeat refine AI ?_
 all_goals first|kernel_rfl|omega|rfl
theorem l05Valid_yes (p:DP) (h:okPt p=true):FnS Tryz.prog 165 [⟨tPoint,p⟩] 0:=by
 have h1:=specIsValidPoint_fn p
 rw [h] at h1
 refine FnS.of1 (enters Tryz.func165 rfl rfl) rfl fun w cs hc=>?_
 obtain ⟨c0,c1,c2,c3,c4,c5,rfl⟩:=list6 hc.len
 exact l05Valid_any c0 c1 c2 c3 c4 c5 _ w hc h1
theorem okPt_oD {x y:Option Rat} (hx:okO x) (hy:okO y):okPt (oD x,oD y)=(x.isSome && y.isSome):=by
 unfold okPt okR
 rw [rdO_oD hx,rdO_oD hy]
theorem difference_fn (a b x y:Option Rat) (ha:okO a) (hb:okO b) (hx:okO x) (hy:okO y):Fn Tryz.prog 72 [⟨tPoint,(oD a,oD b)⟩,⟨tPoint,(oD x,oD y)⟩] true [⟨tPoint,ptO (subO a x) (subO b y)⟩]:=by
 have c1:=ratSub_fn a x ha hx
 have c2:=ratSub_fn b y hb hy
 cases h:((subO a x).isSome && (subO b y).isSome)
 ·have c3:=pointOr_no _ _ h
  have e:ptO (subO a x) (subO b y)=ptZ:=by unfold ptO; rw [h]; rfl
  rw [e]
  refine fe Tryz.func72 Tryz.ntmps72 Tryz.results72 fun hwf=>?_
  try simp (maxSteps:=9^9) only[go_sem]
  repeat refine AI ?_
  refine cw c1 ?_
  try simp (maxSteps:=9^9) only[go_sem]
  repeat refine AI ?_
  refine cw c2 ?_
  try simp (maxSteps:=9^9) only[go_sem]
  repeat refine AI ?_
  refine cw c3 ?_
  try simp (maxSteps:=9^9) only[go_sem]
  all_goals repeat refine AI ?_
  all_goals first|kernel_rfl|omega|rfl
 ·have c3:=pointOr_yes _ _ h
  have e:ptO (subO a x) (subO b y)=(oD (subO a x),oD (subO b y)):=by unfold ptO; rw [h]; rfl
  rw [e]
  refine fe Tryz.func72 Tryz.ntmps72 Tryz.results72 fun hwf=>?_
  try simp (maxSteps:=9^9) only[go_sem]
  repeat refine AI ?_
  refine cw c1 ?_
  try simp (maxSteps:=9^9) only[go_sem]
  repeat refine AI ?_
  refine cw c2 ?_
  try simp (maxSteps:=9^9) only[go_sem]
  repeat refine AI ?_
  refine CallW.s (c3) ?_
  try simp (maxSteps:=9^9) only[go_sem]
  all_goals repeat refine AI ?_
  all_goals first|kernel_rfl|omega|rfl
noncomputable def subP (p q:DP):DP:=ptO (subO (rdO p.1) (rdO q.1)) (subO (rdO p.2) (rdO q.2))
theorem specSubtractPoints_fn (p q:DP):Fn Tryz.prog 124 [⟨tPoint,p⟩,⟨tPoint,q⟩] true [⟨tPoint,subP p q⟩]:=by
 have c1:=specRatSub_fn p.1 q.1
 have c2:=specRatSub_fn p.2 q.2
 have hok:=okPt_oD (okO_sub (rdO p.1) (rdO q.1)) (okO_sub (rdO p.2) (rdO q.2))
 cases h:((subO (rdO p.1) (rdO q.1)).isSome && (subO (rdO p.2) (rdO q.2)).isSome)
 ·have c3:=l05Valid_no _ (hok.trans h)
  have e:subP p q=ptZ:=by unfold subP ptO; rw [h]; rfl
  rw [e]
  refine fe Tryz.func124 Tryz.ntmps124 Tryz.results124 fun hwf=>?_
  try simp (maxSteps:=9^9) only[go_sem]
  repeat refine AI ?_
  refine cw c1 ?_
  try simp (maxSteps:=9^9) only[go_sem]
  repeat refine AI ?_
  refine cw c2 ?_
  try simp (maxSteps:=9^9) only[go_sem]
  repeat refine AI ?_
  refine cw c3 ?_
  try simp (maxSteps:=9^9) only[go_sem]
  all_goals repeat refine AI ?_
  all_goals first|kernel_rfl|omega|rfl
 ·have c3:=l05Valid_yes _ (hok.trans h)
  have e:subP p q=(oD (subO (rdO p.1) (rdO q.1)),oD (subO (rdO p.2) (rdO q.2))):=by unfold subP ptO; rw [h]; rfl
  rw [e]
  refine fe Tryz.func124 Tryz.ntmps124 Tryz.results124 fun hwf=>?_
  try simp (maxSteps:=9^9) only[go_sem]
  repeat refine AI ?_
  refine cw c1 ?_
  try simp (maxSteps:=9^9) only[go_sem]
  repeat refine AI ?_
  refine cw c2 ?_
  try simp (maxSteps:=9^9) only[go_sem]
  repeat refine AI ?_
  refine CallW.s (c3) ?_
  try simp (maxSteps:=9^9) only[go_sem]
  all_goals repeat refine AI ?_
  all_goals first|kernel_rfl|omega|rfl
noncomputable def sdP (p q r:DP):Int:=sgnO (subO (mulO (subO (rdO q.1) (rdO p.1)) (subO (rdO r.2) (rdO p.2))) (mulO (subO (rdO q.2) (rdO p.2)) (subO (rdO r.1) (rdO p.1))))
theorem side_fn (p q r:DP) (hp:okPt p=true) (hq:okPt q=true) (hr:okPt r=true):Fn Tryz.prog 147 [⟨tPoint,p⟩,⟨tPoint,q⟩,⟨tPoint,r⟩] false [⟨.int,sdP p q r⟩]:=by
 obtain ⟨p1,p2⟩:=Bool.and_eq_true_iff.1 (show (okR p.1 && okR p.2)=true from hp)
 obtain ⟨q1,q2⟩:=Bool.and_eq_true_iff.1 (show (okR q.1 && okR q.2)=true from hq)
 obtain ⟨r1,r2⟩:=Bool.and_eq_true_iff.1 (show (okR r.1 && okR r.2)=true from hr)
 have c1:=ratSub_fn (rdO q.1) (rdO p.1) (okO_rdO _) (okO_rdO _)
 have c2:=ratSub_fn (rdO r.2) (rdO p.2) (okO_rdO _) (okO_rdO _)
 have c3:=ratMul_fn _ _ (okO_sub (rdO q.1) (rdO p.1)) (okO_sub (rdO r.2) (rdO p.2))
 have c4:=ratSub_fn (rdO q.2) (rdO p.2) (okO_rdO _) (okO_rdO _)
 have c5:=ratSub_fn (rdO r.1) (rdO p.1) (okO_rdO _) (okO_rdO _)
 have c6:=ratMul_fn _ _ (okO_sub (rdO q.2) (rdO p.2)) (okO_sub (rdO r.1) (rdO p.1))
 have c7:=ratSub_fn (mulO (subO (rdO q.1) (rdO p.1)) (subO (rdO r.2) (rdO p.2))) (mulO (subO (rdO q.2) (rdO p.2)) (subO (rdO r.1) (rdO p.1))) (okO_mul _ _) (okO_mul _ _)
 have c8:=ratSign_fn (subO (mulO (subO (rdO q.1) (rdO p.1)) (subO (rdO r.2) (rdO p.2))) (mulO (subO (rdO q.2) (rdO p.2)) (subO (rdO r.1) (rdO p.1))))
 rw [okR_oD p1,okR_oD q1] at c1
 rw [okR_oD p2,okR_oD r2] at c2
 rw [okR_oD p2,okR_oD q2] at c4
 rw [okR_oD p1,okR_oD r1] at c5
 unfold sdP
 refine fe Tryz.func147 Tryz.ntmps147 Tryz.results147 fun hwf=>?_
 try simp (maxSteps:=9^9) only[go_sem]
 repeat refine AI ?_
 refine cw c1 ?_
 try simp (maxSteps:=9^9) only[go_sem]
 repeat refine AI ?_
 refine cw c2 ?_
 try simp (maxSteps:=9^9) only[go_sem]
 repeat refine AI ?_
 refine cw c3 ?_
 try simp (maxSteps:=9^9) only[go_sem]
 repeat refine AI ?_
 refine cw c4 ?_
 try simp (maxSteps:=9^9) only[go_sem]
 repeat refine AI ?_
 refine cw c5 ?_
 try simp (maxSteps:=9^9) only[go_sem]
 repeat refine AI ?_
 refine cw c6 ?_
 try simp (maxSteps:=9^9) only[go_sem]
 repeat refine AI ?_
 refine cw c7 ?_
 try simp (maxSteps:=9^9) only[go_sem]
 repeat refine AI ?_
 refine cw c8 ?_
 try simp (maxSteps:=9^9) only[go_sem]
 all_goals repeat refine AI ?_
 all_goals first|kernel_rfl|omega|rfl
theorem specSide_fn (p q r:DP):Fn Tryz.prog 164 [⟨tPoint,p⟩,⟨tPoint,q⟩,⟨tPoint,r⟩] false [⟨.int,sdP p q r⟩]:=by
 have c1:=specRatSub_fn q.1 p.1
 have c2:=specRatSub_fn r.2 p.2
 have c3:=specRatMul_fn (oD (subO (rdO q.1) (rdO p.1))) (oD (subO (rdO r.2) (rdO p.2)))
 have c4:=specRatSub_fn q.2 p.2
 have c5:=specRatSub_fn r.1 p.1
 have c6:=specRatMul_fn (oD (subO (rdO q.2) (rdO p.2))) (oD (subO (rdO r.1) (rdO p.1)))
 have c7:=specRatSub_fn (oD (mulO (subO (rdO q.1) (rdO p.1)) (subO (rdO r.2) (rdO p.2)))) (oD (mulO (subO (rdO q.2) (rdO p.2)) (subO (rdO r.1) (rdO p.1))))
 have c8:=specRatSign_fn (oD (subO (mulO (subO (rdO q.1) (rdO p.1)) (subO (rdO r.2) (rdO p.2))) (mulO (subO (rdO q.2) (rdO p.2)) (subO (rdO r.1) (rdO p.1)))))
 rw [rdO_oD (okO_sub _ _),rdO_oD (okO_sub _ _)] at c3 c6
 rw [rdO_oD (okO_mul _ _),rdO_oD (okO_mul _ _)] at c7
 rw [rdO_oD (okO_sub _ _)] at c8
 unfold sdP
 refine fe Tryz.func164 Tryz.ntmps164 Tryz.results164 fun hwf=>?_
 try simp (maxSteps:=9^9) only[go_sem]
 repeat refine AI ?_
 refine cw c1 ?_
 try simp (maxSteps:=9^9) only[go_sem]
 repeat refine AI ?_
 refine cw c2 ?_
 try simp (maxSteps:=9^9) only[go_sem]
 repeat refine AI ?_
 refine cw c3 ?_
 try simp (maxSteps:=9^9) only[go_sem]
 repeat refine AI ?_
 refine cw c4 ?_
 try simp (maxSteps:=9^9) only[go_sem]
 repeat refine AI ?_
 refine cw c5 ?_
 try simp (maxSteps:=9^9) only[go_sem]
 repeat refine AI ?_
 refine cw c6 ?_
 try simp (maxSteps:=9^9) only[go_sem]
 repeat refine AI ?_
 refine cw c7 ?_
 try simp (maxSteps:=9^9) only[go_sem]
 repeat refine AI ?_
 refine cw c8 ?_
 try simp (maxSteps:=9^9) only[go_sem]
 all_goals repeat refine AI ?_
 all_goals first|kernel_rfl|omega|rfl
def ptV (v:DV):DP:=(ratI v.1,ratI v.2)
theorem PointOfI_fn (v:DV):Fn Tryz.prog 184 [⟨tVec,v⟩] true [⟨tPoint,ptV v⟩]:=by
 have c1:=ratInt_fn v.1
 have c2:=ratInt_fn v.2
 unfold ptV
 refine fe Tryz.func184 Tryz.ntmps184 Tryz.results184 fun hwf=>?_
 try simp (maxSteps:=9^9) only[go_sem]
 repeat refine AI ?_
 refine cw c1 ?_
 try simp (maxSteps:=9^9) only[go_sem]
 repeat refine AI ?_
 refine cw c2 ?_
 try simp (maxSteps:=9^9) only[go_sem]
 all_goals repeat refine AI ?_
 all_goals first|kernel_rfl|omega|rfl
theorem PointOfS_fn (v:DV):Fn Tryz.prog 32 [⟨tVec,v⟩] true [⟨tPoint,ptV v⟩]:=by
 have c1:=RatFromInt_fn v.1
 have c2:=RatFromInt_fn v.2
 unfold ptV
 refine fe Tryz.func32 Tryz.ntmps32 Tryz.results32 fun hwf=>?_
 try simp (maxSteps:=9^9) only[go_sem]
 repeat refine AI ?_
 refine cw c1 ?_
 try simp (maxSteps:=9^9) only[go_sem]
 repeat refine AI ?_
 refine cw c2 ?_
 try simp (maxSteps:=9^9) only[go_sem]
 all_goals repeat refine AI ?_
 all_goals first|kernel_rfl|omega|rfl
theorem okR_ratI {n:Int} (h1:-1000<=n) (h2:n<=1000):okR (ratI n)=true:=by
 have ho:okO (some ((n:Int):Rat)):=by
  intro q hq; injection hq with hq; subst hq
  exact ⟨Nat.le_trans (nl_small (n:=n.natAbs) (by omega)) (by decide),Nat.le_trans (nl_small (n:=1) (by decide)) (by decide)⟩
 rw [show ratI n=oD (some ((n:Int):Rat)) from ratI_eq n]
 unfold okR
 rw [rdO_oD ho]; rfl
theorem okPt_ptV {v:DV} (h:okV v=true):okPt (ptV v)=true:=by
 obtain ⟨b1,b2,b3,b4⟩:=okV_b h
 show (okR (ratI v.1) && okR (ratI v.2))=true
 rw [okR_ratI b1 b2,okR_ratI b3 b4]; rfl
def mapp (l:List DV) (i:Nat):List DP:=(l.take i).map ptV
theorem mapp_step {l:List DV} {i:Nat} (h:i < l.length):mapp l (i+1)=mapp l i++[ptV (nth (t:=tVec) l i)]:=by
 unfold mapp
 rw [List.take_succ_eq_append_getElem h,nth_lt h,List.map_append]
 rfl
theorem mapp_len {l:List DV} {i:Nat} (h:i<=l.length):(mapp l i).length=i:=by
 unfold mapp
 rw [List.length_map,List.length_take]; omega
theorem mapp_all {l:List DV} {i:Nat} (h:l.length<=i):mapp l i=l.map ptV:=by
 unfold mapp
 rw [List.take_of_length_le h]
theorem pointsOf_fn (l:List DV) (hn:l.length<=1048576):Fn Tryz.prog 146 [⟨.slice tVec,l⟩] true [⟨.slice tPoint,l.map ptV⟩]:=by
 refine fe Tryz.func146 Tryz.ntmps146 Tryz.results146 fun hwf=>?_
 try simp (maxSteps:=9^9) only[go_sem]
 refine LoopG.intro _ _ _ (fun i:Nat=>⟨[(3,.row 0 0),(7,.sl tVec l),(8,.sc (.int .i64 l.length)),(9,.sc (.int .i64 i))],[(0,.row 33 tPoint 0 true (mapp l i))]⟩) (fun i=>i<=l.length) (fun i=>l.length - i) 0 ?_ (Nat.zero_le _) ?_
 ·refine Wk.mk [] ?_
  try simp (maxSteps:=9^9) only[go_sem]
  try (and_intros<;>first|rfl|omega|exact ⟨_,rfl⟩)
  all_goals (first|exact ⟨rfl,rfl⟩|rfl)
 ·rintro i hi
  try simp (maxSteps:=9^9) only[go_sem]
  refine CondW_dec (fun hA=>?_) (fun hA=>?_)
  ·have hlt:i < l.length:=by omega
   have hml:=mapp_len (l:=l) (i:=i) (by omega)
   have e:=mapp_step hlt
   have c2:=PointOfI_fn (nth (t:=tVec) l i)
   try simp (maxSteps:=9^9) only[go_sem]
   repeat refine AI ?_
   repeat refine AI ?_
   refine cw c2 ?_
   try simp (maxSteps:=9^9) only[go_sem]
   try simp (maxSteps:=9^9) only[go_sem,hml]
   repeat refine AI ?_
   refine LoopK.mk (i+1) ?_ (by omega) (by omega)
   rw [e]
   refine Wk.mk [] ?_
   try simp (maxSteps:=9^9) only[go_sem]
   try (and_intros<;>first|rfl|omega|exact ⟨_,rfl⟩)
   all_goals (first|exact ⟨by omega,rfl⟩|exact ⟨rfl,rfl⟩)
  ·rw [mapp_all (by omega)]
   try simp (maxSteps:=9^9) only[go_sem]
noncomputable def cntI (l:List DV) (p:DP):Nat->Int
 | 0=>1
 | i+1=>min (cntI l p i) (sdP (ptV (nth (t:=tVec) l i)) (ptV (nth (t:=tVec) l (nxt l.length i).toNat)) p)
theorem nth_ptV {l:List DV} {i:Nat} (h:i < l.length):nth (t:=tPoint) (l.map ptV) i=ptV (nth (t:=tVec) l i):=by
 rw [nth_lt (t:=tVec) h,nth_lt (t:=tPoint) (l:=l.map ptV) (by rw [List.length_map]; exact h),List.getElem_map]
theorem contains_fn (l:List DV) (p:DP) (hl:∀ v ∈ l,okV v=true) (hn:l.length<=1048576) (hp:okPt p=true):Fn Tryz.prog 105 [⟨.slice tVec,l⟩,⟨tPoint,p⟩] false [⟨.int,cntI l p l.length⟩]:=by
 have c1:=pointsOf_fn l hn
 have hml:(l.map ptV).length=l.length:=List.length_map ..
 refine fe Tryz.func105 Tryz.ntmps105 Tryz.results105 fun hwf=>?_
 try simp (maxSteps:=9^9) only[go_sem]
 repeat refine AI ?_
 refine cw c1 ?_
 try simp (maxSteps:=9^9) only[go_sem]
 try simp (maxSteps:=9^9) only[go_sem,hml]
 refine LoopG.intro _ _ _ (fun i:Nat=>⟨[(3,.ptr 0 0),(5,.sl tPoint (l.map ptV)),(6,.sc (.int .i64 (cntI l p i))),(11,.sl tPoint (l.map ptV)),(12,.sc (.int .i64 l.length)),(13,.sc (.int .i64 i))],[(0,.box (cel tPoint p))]⟩) (fun i=>i<=l.length) (fun i=>l.length - i) 0 ?_ (Nat.zero_le _) ?_
 ·refine Wk.mk [] ?_
  try simp (maxSteps:=9^9) only[go_sem]
  try (and_intros<;>first|rfl|omega|exact ⟨_,rfl⟩)
  trace_state
 ·rintro i hi
  try simp (maxSteps:=9^9) only[go_sem]
  refine CondW_dec (fun hA=>?_) (fun hA=>?_)
  ·have hlt:i < l.length:=by omega
   have hr:=nxt_rng (n:=l.length) (i:=i) (by omega)
   have hr2:(nxt l.length i).toNat < l.length:=by omega
   have c2:=side_fn (ptV (nth (t:=tVec) l i)) (ptV (nth (t:=tVec) l (nxt l.length i).toNat)) p (okPt_ptV (hl _ (nth_mem hlt))) (okPt_ptV (hl _ (nth_mem hr2))) hp
   rw [<-nth_ptV hlt,<-nth_ptV hr2] at c2
   unfold nxt at hr hr2 c2
   try simp (maxSteps:=9^9) only[go_sem,hml]
   repeat refine AI ?_
   refine RemW.pos (by omega) (by omega) ?_
   try simp (maxSteps:=9^9) only[go_sem,hml]
   repeat refine AI ?_
   refine cw c2 ?_
   try simp (maxSteps:=9^9) only[go_sem]
   repeat refine AI ?_
   have hst:cntI l p (i+1)=min (cntI l p i) (sdP (nth (t:=tPoint) (l.map ptV) i) (nth (t:=tPoint) (l.map ptV) (((i:Int)+1) % (l.length:Int)).toNat) p):=by
    rw [nth_ptV hlt,nth_ptV hr2]; rfl
   refine LoopK.mk (i+1) ?_ (by omega) (by omega)
   rw [hst]
   exact WK
  ·rw [show l.length=i by omega]
   try simp (maxSteps:=9^9) only[go_sem]
   all_goals repeat refine AI ?_
   all_goals first|kernel_rfl|omega|rfl
def crs (u v:DV):Int:=u.1 * v.2 - u.2 * v.1
def dt (u v:DV):Int:=u.1 * v.1+u.2 * v.2
def sbV (a b:DV):DV:=(a.1 - b.1,a.2 - b.2)
def Rt (d:DV):Prop:=0 < d.1\/d.1=0/\0 < d.2
theorem Rt_of {a b:DV} (h:ltV a b):Rt (sbV b a):=by unfold ltV at h; unfold Rt sbV; simp only; omega
theorem crs_nn {u v w:DV} (hu:Rt u) (hv:Rt v) (hw:Rt w) (h1:0<=crs u v) (h2:0<=crs v w):0<=crs u w:=by
 have key:v.1 * crs u w=u.1 * crs v w+w.1 * crs u v:=by unfold crs; grind
 have u1:0<=u.1:=by unfold Rt at hu; omega
 have w1:0<=w.1:=by unfold Rt at hw; omega
 rcases hv with hv|⟨hv,hv2⟩
 ·by_cases hc:0<=crs u w
  ·exact hc
  ·have h3:=Int.mul_neg_of_pos_of_neg hv (show crs u w < 0 by omega)
   have h4:=Int.mul_nonneg u1 h2
   have h5:=Int.mul_nonneg w1 h1
   omega
 ·have e:crs v w=-(v.2 * w.1):=by unfold crs; rw [hv]; grind
  have hw0:w.1=0:=by
   by_cases hp:0 < w.1
   ·have:=Int.mul_pos hv2 hp
    omega
   ·omega
  have hw2:0 < w.2:=by unfold Rt at hw; omega
  have e2:crs u w=u.1 * w.2:=by unfold crs; rw [hw0]; grind
  rw [e2]
  exact Int.mul_nonneg u1 (Int.le_of_lt hw2)
theorem crs_sw (u v:DV):crs u v=- crs v u:=by unfold crs; grind
theorem crs_pn {u v w:DV} (hu:Rt u) (hv:Rt v) (hw:Rt w) (h1:0 < crs u v) (h2:0<=crs v w):0 < crs u w:=by
 have h3:=crs_nn hu hv hw (Int.le_of_lt h1) h2
 by_cases hc:crs u w=0
 ·have h4:=crs_nn hv hw hu h2 (by rw [crs_sw]; omega)
  rw [crs_sw] at h4
  omega
 ·omega
theorem crs_np {u v w:DV} (hu:Rt u) (hv:Rt v) (hw:Rt w) (h1:0<=crs u v) (h2:0 < crs v w):0 < crs u w:=by
 have h3:=crs_nn hu hv hw h1 (Int.le_of_lt h2)
 by_cases hc:crs u w=0
 ·have h4:=crs_nn hw hu hv (by rw [crs_sw]; omega) h1
  rw [crs_sw] at h4
  omega
 ·omega
theorem trn_crs (a b c:DV):trn a b c=crs (sbV b a) (sbV c a):=rfl
theorem trn_crs2 (a b c:DV):trn a b c=crs (sbV b a) (sbV c b):=by unfold trn crs sbV; grind
theorem trn_add (a b x y:DV):trn a b y=crs (sbV b a) (sbV y x)+trn a b x:=by unfold trn crs sbV; grind
theorem trn_aa (a b:DV):trn a b a=0:=by unfold trn; grind
theorem trn_bb (a b:DV):trn a b b=0:=by unfold trn; grind
def edg:List DV->List (DV × DV)
 | b :: a :: l=>(a,b) :: edg (a :: l)
 | _=>[]
def dir (e:DV × DV):DV:=sbV e.2 e.1
theorem edg_cons {v b:DV} {l:List DV}:edg (v :: b :: l)=(b,v) :: edg (b :: l):=rfl
theorem edg_mem:∀ {r:List DV} {e:DV × DV},e ∈ edg r->e.1 ∈ r/\e.2 ∈ r
 | [],e,h=>by simp [edg] at h
 | [a],e,h=>by simp [edg] at h
 | b :: a :: l,e,h=>by
  rw [edg_cons] at h
  rcases List.mem_cons.1 h with rfl|h
  ·exact ⟨by simp,by simp⟩
  ·obtain ⟨h1,h2⟩:=edg_mem h
   exact ⟨List.mem_cons_of_mem _ h1,List.mem_cons_of_mem _ h2⟩
structure ChOK (P:DV->Prop) (r:List DV):Prop where
 desc:r.Pairwise (fun x y=>ltV y x)
 cvx:(edg r).Pairwise (fun e f=>0 < crs (dir f) (dir e))
 low:∀ e ∈ edg r,∀ p,P p->0<=trn e.1 e.2 p
 str:∀ e ∈ edg r,∀ x ∈ r,x=e.1\/x=e.2\/0 < trn e.1 e.2 x
 sub:∀ x ∈ r,P x
theorem edg_lt:∀ {r:List DV} {e:DV × DV},r.Pairwise (fun x y=>ltV y x)->e ∈ edg r->ltV e.1 e.2
 | [],e,_,h=>by simp [edg] at h
 | [a],e,_,h=>by simp [edg] at h
 | b :: a :: l,e,hd,h=>by
  rw [edg_cons] at h
  rw [List.pairwise_cons] at hd
  rcases List.mem_cons.1 h with rfl|h
  ·exact hd.1 a (by simp)
  ·exact edg_lt hd.2 h
theorem ChOK.tail {P:DV->Prop} {b:DV} {l:List DV} (h:ChOK P (b :: l)):ChOK P l:=by
 have hd:=(List.pairwise_cons.1 h.desc).2
 cases l with
 | nil=>exact ⟨List.Pairwise.nil,List.Pairwise.nil,(fun e he=>by simp [edg] at he),(fun e he=>by simp [edg] at he),(fun x hx=>by simp at hx)⟩
 | cons a l =>
  have hc:=h.cvx
  rw [edg_cons] at hc
  exact ⟨hd,(List.pairwise_cons.1 hc).2,fun e he=>h.low e (by rw [edg_cons]; exact List.mem_cons_of_mem _ he),fun e he x hx=>h.str e (by rw [edg_cons]; exact List.mem_cons_of_mem _ he) x (List.mem_cons_of_mem _ hx),fun x hx=>h.sub x (List.mem_cons_of_mem _ hx)⟩
structure Popped (P:DV->Prop) (v:DV) (r:List DV) (b:DV) (l:List DV):Prop where
 ok:ChOK P (b :: l)
 last:∀ x,r.getLast? = some x->(b :: l).getLast? = some x
 stop:∀ a l',l=a :: l'->0 < trn a b v
 gone:(∃ l',r=b :: l')\/∃ c,ltV b c/\P c/\trn b c v<=0/\∀ p,P p->0<=trn b c p
theorem popD_ok {P:DV->Prop} {v:DV}:∀ {r:List DV} {b0:DV} {l0:List DV},r=b0 :: l0->ChOK P r->∃ b l,popD v r=b :: l/\Popped P v r b l
 | [],_,_,h,_=>by cases h
 | [a],_,_,_,hc=>⟨a,[],rfl,hc,fun x hx=>hx,(fun a l' h=>by cases h),.inl ⟨[],rfl⟩⟩
 | b :: a :: l,_,_,_,hc=>by
  by_cases ht:trn a b v<=0
  ·obtain ⟨b',l',e,hp⟩:=popD_ok (v:=v) (r:=a :: l) rfl hc.tail
   refine ⟨b',l',by rw [popD,if_pos ht]; exact e,hp.ok,fun x hx=>hp.last x (by rw [List.getLast?_cons_cons] at hx; exact hx),hp.stop,.inr ?_⟩
   rcases hp.gone with ⟨l2,h2⟩|h2
   ·injection h2 with h2 _
    subst h2
    exact ⟨b,(List.pairwise_cons.1 hc.desc).1 a (by simp),hc.sub b (by simp),ht,fun p hp=>hc.low (a,b) (by rw [edg_cons]; simp) p hp⟩
   ·exact h2
  ·exact ⟨b,a :: l,by rw [popD,if_neg ht],hc,fun x hx=>hx,(fun a' l' h=>by injection h with h _; subst h; omega),.inl ⟨a :: l,rfl⟩⟩
theorem push_ok {P:DV->Prop} {v b m:DV} {r l:List DV} (hp:Popped P v r b l) (hv:∀ p,P p->ltV p v) (hm:r.getLast? = some m) (hmin:∀ p,P p->p=m\/ltV m p) (htop:∀ t l',r=t :: l'->∀ p,P p->p=t\/ltV p t) :
  ChOK (fun p=>p=v\/P p) (v :: b :: l):=by
 have hb:P b:=hp.ok.sub b (by simp)
 have hbv:=hv b hb
 have rv:=Rt_of hbv
 have hml:=hp.last m hm
 have left:∀ p,P p->ltV p b->0 < trn b v p:=by
  intro p hP hlt
  cases l with
  | nil =>
   simp at hml
   subst hml
   rcases hmin p hP with rfl|h
   ·exact absurd hlt (ltV_irrefl _)
   ·exact absurd hlt (ltV_asymm h)
  | cons a l' =>
   have h1:=hp.stop a l' rfl
   have h2:=hp.ok.low (a,b) (by rw [edg_cons]; simp) p hP
   have hab:=(List.pairwise_cons.1 hp.ok.desc).1 a (by simp)
   rw [trn_crs2] at h1 h2
   have h3:0<=crs (sbV b p) (sbV b a):=by
    have:crs (sbV b p) (sbV b a)=crs (sbV b a) (sbV p b):=by unfold crs sbV; grind
    rw [this]; exact h2
   have h4:=crs_np (Rt_of hlt) (Rt_of hab) rv h3 h1
   have:trn b v p=crs (sbV b p) (sbV v b):=by unfold trn crs sbV; grind
   rw [this]; exact h4
 have all:∀ p,P p->0<=trn b v p:=by
  intro p hP
  rcases ltV_tri p b with h|h|h
  ·exact Int.le_of_lt (left p hP h)
  ·subst h; rw [trn_aa]; exact Int.le_refl _
  ·rcases hp.gone with ⟨l',hr⟩|⟨c,h1,h2,h3,h4⟩
   ·rcases htop b l' hr p hP with rfl|h5
    ·exact absurd h (ltV_irrefl _)
    ·exact absurd h (ltV_asymm h5)
   ·have h5:=h4 p hP
    rw [trn_crs] at h3 h5
    rw [trn_crs]
    exact crs_nn rv (Rt_of h1) (Rt_of h) (by rw [crs_sw]; omega) h5
 have bend:∀ f ∈ edg (b :: l),0 < crs (dir f) (sbV v b):=by
  intro f hf
  cases l with
  | nil=>simp [edg] at hf
  | cons a l' =>
   have h1:=hp.stop a l' rfl
   rw [trn_crs2] at h1
   have hab:=(List.pairwise_cons.1 hp.ok.desc).1 a (by simp)
   have hc:=hp.ok.cvx
   rw [edg_cons] at hc hf
   rcases List.mem_cons.1 hf with rfl|hf
   ·exact h1
   ·have h2:=(List.pairwise_cons.1 hc).1 f hf
    have h3:=edg_lt (List.pairwise_cons.1 hp.ok.desc).2 hf
    exact crs_pn (Rt_of h3) (Rt_of hab) rv h2 (Int.le_of_lt h1)
 have oldv:∀ f ∈ edg (b :: l),0 < trn f.1 f.2 v:=by
  intro f hf
  have h1:=bend f hf
  have h2:=hp.ok.low f hf b hb
  rw [trn_add f.1 f.2 b v]
  unfold dir at h1
  omega
 refine ⟨List.pairwise_cons.2 ⟨fun x hx=>hv x (hp.ok.sub x hx),hp.ok.desc⟩,?_,?_,?_,?_⟩
 ·rw [edg_cons]
  exact List.pairwise_cons.2 ⟨fun f hf=>bend f hf,hp.ok.cvx⟩
 ·intro e he p hP
  rw [edg_cons] at he
  rcases List.mem_cons.1 he with rfl|he2
  ·rcases hP with rfl|hP
   ·show 0<=trn b p p; rw [trn_bb]; exact Int.le_refl _
   ·exact all p hP
  ·rcases hP with rfl|hP
   ·exact Int.le_of_lt (oldv e he2)
   ·exact hp.ok.low e he2 p hP
 ·intro e he x hx
  rw [edg_cons] at he
  rcases List.mem_cons.1 he with rfl|he2
  ·rcases List.mem_cons.1 hx with rfl|hx
   ·exact .inr (.inl rfl)
   ·rcases List.mem_cons.1 hx with rfl|hx
    ·exact .inl rfl
    ·exact .inr (.inr (left x (hp.ok.sub x (List.mem_cons_of_mem _ hx)) ((List.pairwise_cons.1 hp.ok.desc).1 x hx)))
  ·rcases List.mem_cons.1 hx with rfl|hx
   ·exact .inr (.inr (oldv e he2))
   ·exact hp.ok.str e he2 x hx
 ·intro x hx
  rcases List.mem_cons.1 hx with rfl|hx
  ·exact .inl rfl
  ·exact .inr (hp.ok.sub x hx)
theorem chR_ok:∀ (n:Nat) {l:List DV},l.length=n+1->l.Pairwise ltV →
  ∃ t r,chR l=t :: r/\(chR l).getLast? = l.head?/\l.getLast? = some t/\ChOK (fun p=>p ∈ l) (chR l)
 | 0,l,hl,hs=>by
  match l,hl with
  | [a],_=>exact ⟨a,[],rfl,rfl,rfl,⟨List.pairwise_singleton _ _,List.Pairwise.nil,(fun e he=>by simp [chR,popD,edg] at he),(fun e he=>by simp [chR,popD,edg] at he),fun x hx=>hx⟩⟩
 | n+1,l,hl,hs=>by
  obtain ⟨l',v,rfl⟩:∃ l' v,l=l'++[v]:=⟨l.dropLast,l.getLast (by intro h; rw [h] at hl; simp at hl),(List.dropLast_concat_getLast _).symm⟩
  have hl':l'.length=n+1:=by simp at hl; omega
  rw [List.pairwise_append] at hs
  obtain ⟨hs1,_,hs3⟩:=hs
  obtain ⟨t,r,e1,e2,e3,hc⟩:=chR_ok n hl' hs1
  have hst:chR (l'++[v])=v :: popD v (chR l'):=by unfold chR; rw [List.foldl_append]; rfl
  obtain ⟨b,q,e4,hp⟩:=popD_ok (v:=v) e1 hc
  obtain ⟨m,l2,rfl⟩:∃ m l2,l'=m :: l2:=by
   cases l' with
   | nil=>simp at hl'
   | cons m l2=>exact ⟨m,l2,rfl⟩
  have hlast:(chR (m :: l2)).getLast? = some m:=e2
  have hpush:=push_ok hp (fun p hpm=>hs3 p hpm v (by simp)) hlast (fun p hpm=>by
   rcases List.mem_cons.1 hpm with h|h
   ·exact .inl h
   ·exact .inr ((List.pairwise_cons.1 hs1).1 p h)) (fun t' l3 ht p hpm=>by
   rw [e1] at ht
   injection ht with ht _
   subst ht
   have hgl:(m :: l2).getLast? = some t:=e3
   obtain ⟨ys,hys⟩:=List.getLast?_eq_some_iff.1 hgl
   rw [hys] at hpm hs1
   rw [List.pairwise_append] at hs1
   rcases List.mem_append.1 hpm with h|h
   ·exact .inr (hs1.2.2 p h t (by simp))
   ·exact .inl (by simpa using h))
  refine ⟨v,popD v (chR (m :: l2)),hst,?_,List.getLast?_concat,?_⟩
  ·rw [hst,e4,List.getLast?_cons_cons,hp.last m hlast]; rfl
  ·rw [hst,e4]
   refine ⟨hpush.desc,hpush.cvx,fun e he p hpm=>hpush.low e he p ?_,hpush.str,fun x hx=>?_⟩
   ·rcases List.mem_append.1 hpm with h|h
    ·exact .inr h
    ·exact .inl (by simpa using h)
   ·rcases hpush.sub x hx with rfl|h
    ·simp
    ·exact List.mem_append.2 (.inl h)
end Go.Proofs.YtbnkojgcbmfloaaGreat.DW
