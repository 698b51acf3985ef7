/-
  Texts of a proof, one behind another: Dw10, Dw115, Dw117, Dw116, Dw118, Open, OpensU, Dw11, Dw12, Dw13, Dw16, Dw18, Dw21, Dw112, Dw113, Dw120, Dw121, Dw122, Dw123, Dw124, Dw125, SoC, Dw126, Dw114, Dw127, Dw128, DwV, Dw80, Dw14, Dw15, Cn, CnO, Dw22, Dw17, Dw28, Dw29, Dw30, Dw31, Dw32, Dw33, Dw34, Dw83, Sp1, Sp2, Dw23, Dw24, Hl1, Dw40, LwA, Ints, Own, Copy, PtOr, Dw19, Dw41, Dw82, ArIn, Dw25, Same, Sz, To, Eq, Mark, Held, LwH, Dw26, Dw129, LawFormats, TabL.
-/
import Derived.ProofKit
import Derived.Deep.Slices
import Derived.Test.YtaeckjmkjhffnaaGreatDoorRows
import Derived.Shelf.Strings.Count
import Derived.Deep.AppendLies
import Derived.Test.YtaeckjmkjhffnaaGreatDoorProg
import Derived.Deep.RegionHeld3
import Derived.Deep.RegionLaw
import Derived.Lib.LaidTab
import Derived.LaidMore
import Derived.MakeChecks
import Derived.Test.YtaeckjmkjhffnaaGreatDoorKFF3
set_option linter.all false
set_option maxRecDepth 100000
namespace Go.Proofs.YtaeckjmkjhffnaaGreatDoor.DW
open Go.RowKit
@[go_sem] theorem oD_s (q:Rat):oD (some q)=ratD q:=(rfl)
@[go_sem] theorem oD_n:oD none=rZ:=(rfl)
attribute [go_sem] ratD rZ bZ
theorem one_iff {n:Nat}:((nl n:Int)=1/\(dg n 0:Int)=1) ↔ n=1:=by
 constructor
 ·rintro ⟨h1,h2⟩
  have:=dg_one (b:=n) (by omega)
  omega
 ·rintro rfl
  have h:nl 1=1:=by rw [nl_pos (by decide),show 1 / 1000000000=0 from rfl,nl_zero]
  exact ⟨by omega,by have:=dg_one h; omega⟩
theorem isOne_fn (n:Nat):Fn Tryz.prog 112 [⟨tInts,natL n⟩] false [⟨.bool,decide (n=1)⟩]:=by
 by_cases h1:(nl n:Int)=1
 ·have hiff:=@one_iff n
  refine fe Tryz.func112 Tryz.ntmps112 Tryz.results112 fun hwf=>?_
  try simp (maxSteps:=9^9) only[go_sem,h1]
  repeat refine AI ?_
  rw [decide_eq_decide]; omega
 ·have hn:n ≠ 1:=fun h=>h1 (one_iff.2 h).1
  refine fe Tryz.func112 Tryz.ntmps112 Tryz.results112 fun hwf=>?_
  try simp (maxSteps:=9^9) only[go_sem,h1]
  simp [hn]
theorem l04One_fn (n:Nat):Fn Tryz.prog 104 [⟨tInts,natL n⟩] false [⟨.bool,decide (n=1)⟩]:=by
 by_cases h1:(nl n:Int)=1
 ·have hiff:=@one_iff n
  refine fe Tryz.func104 Tryz.ntmps104 Tryz.results104 fun hwf=>?_
  try simp (maxSteps:=9^9) only[go_sem,h1]
  repeat refine AI ?_
  rw [decide_eq_decide]; omega
 ·have hn:n ≠ 1:=fun h=>h1 (one_iff.2 h).1
  refine fe Tryz.func104 Tryz.ntmps104 Tryz.results104 fun hwf=>?_
  try simp (maxSteps:=9^9) only[go_sem,h1]
  simp [hn]
theorem bool_ext' {a b:Bool} (h:a=true ↔ b=true):a=b:=by cases a<;>cases b<;>simp_all
theorem okB_iff {x:DB}:okB x=true ↔ okBP x:=by
 constructor
 ·intro h; exact Classical.byContradiction fun hn=>by rw [okB,bdec_f hn] at h; cases h
 ·exact fun h=>bdec_t h
theorem okN_iff {l:List Int}:okN l=true ↔ okNP l:=by
 constructor
 ·intro h; exact Classical.byContradiction fun hn=>by rw [okN,bdec_f hn] at h; cases h
 ·exact fun h=>bdec_t h
theorem okR_eq (x:DB) (d:List Int):okR (x,d)=(okB x && okN d && !decide ((d.length:Int)=0) && !decide (24 < (x.2.length:Int)) && !decide (24 < (d.length:Int)) && decide (Nat.gcd (val x.2) (val d)=1)):=by
 apply bool_ext'
 rw [okR_iff]
 simp only [Bool.and_eq_true,okB_iff,okN_iff,Bool.not_eq_true',decide_eq_false_iff_not,decide_eq_true_eq,and_assoc]
 constructor
 ·rintro ⟨h1,h2,h3,h4,h5,h6⟩
  refine ⟨h1,h2,fun h=>h3 (List.eq_nil_of_length_eq_zero (by omega)),by omega,by omega,h6⟩
 ·rintro ⟨h1,h2,h3,h4,h5,h6⟩
  refine ⟨h1,h2,fun h=>h3 (by rw [h]; rfl),by omega,by omega,h6⟩
theorem implRatOk_fn (r:DR):Fn Tryz.prog 111 [⟨tRat,r⟩] false [⟨.bool,okR r⟩]:=by
 obtain ⟨x,d⟩:=r
 rw [okR_eq]
 cases h1:okB x
 ·refine fe Tryz.func111 Tryz.ntmps111 Tryz.results111 fun hwf=>?_
  try simp (maxSteps:=9^9) only[go_sem]
  repeat refine AI ?_
  refine cw (implBigIntOk_fn x) ?_
  try simp (maxSteps:=9^9) only[go_sem]
  try simp (maxSteps:=9^9) only[go_sem,h1]
 cases h2:okN d
 ·refine fe Tryz.func111 Tryz.ntmps111 Tryz.results111 fun hwf=>?_
  try simp (maxSteps:=9^9) only[go_sem]
  repeat refine AI ?_
  refine cw (implBigIntOk_fn x) ?_
  try simp (maxSteps:=9^9) only[go_sem]
  try simp (maxSteps:=9^9) only[go_sem,h1]
  repeat refine AI ?_
  refine cw (implNatOk_fn d) ?_
  try simp (maxSteps:=9^9) only[go_sem]
  try simp (maxSteps:=9^9) only[go_sem,h2]
 by_cases h3:(d.length:Int)=0
 ·refine fe Tryz.func111 Tryz.ntmps111 Tryz.results111 fun hwf=>?_
  try simp (maxSteps:=9^9) only[go_sem]
  repeat refine AI ?_
  refine cw (implBigIntOk_fn x) ?_
  try simp (maxSteps:=9^9) only[go_sem]
  try simp (maxSteps:=9^9) only[go_sem,h1]
  repeat refine AI ?_
  refine cw (implNatOk_fn d) ?_
  try simp (maxSteps:=9^9) only[go_sem]
  try simp (maxSteps:=9^9) only[go_sem,h2,h3]
 by_cases h4:24 < (x.2.length:Int)
 ·refine fe Tryz.func111 Tryz.ntmps111 Tryz.results111 fun hwf=>?_
  try simp (maxSteps:=9^9) only[go_sem]
  repeat refine AI ?_
  refine cw (implBigIntOk_fn x) ?_
  try simp (maxSteps:=9^9) only[go_sem]
  try simp (maxSteps:=9^9) only[go_sem,h1]
  repeat refine AI ?_
  refine cw (implNatOk_fn d) ?_
  try simp (maxSteps:=9^9) only[go_sem]
  try simp (maxSteps:=9^9) only[go_sem,h2,h3,h4]
 by_cases h5:24 < (d.length:Int)
 ·refine fe Tryz.func111 Tryz.ntmps111 Tryz.results111 fun hwf=>?_
  try simp (maxSteps:=9^9) only[go_sem]
  repeat refine AI ?_
  refine cw (implBigIntOk_fn x) ?_
  try simp (maxSteps:=9^9) only[go_sem]
  try simp (maxSteps:=9^9) only[go_sem,h1]
  repeat refine AI ?_
  refine cw (implNatOk_fn d) ?_
  try simp (maxSteps:=9^9) only[go_sem]
  try simp (maxSteps:=9^9) only[go_sem,h2,h3,h4,h5]
 obtain ⟨z,rfl,_⟩:=okBP_iff.1 (okB_iff.1 h1)
 obtain ⟨n,rfl,_⟩:=okNP_iff.1 (okN_iff.1 h2)
 have h1':okB (decide (z < 0),natL z.natAbs)=true:=h1
 have h3':¬ (nl n:Int)=0:=h3
 have h4':¬ 24 < (nl z.natAbs:Int):=h4
 have h5':¬ 24 < (nl n:Int):=h5
 have hv:val (bigD z).2=z.natAbs:=val_natL _
 rw [hv,val_natL]
 by_cases hn:n=1
 ·refine fe Tryz.func111 Tryz.ntmps111 Tryz.results111 fun hwf=>?_
  try simp (maxSteps:=9^9) only[go_sem]
  repeat refine AI ?_
  refine cw (implBigIntOk_fn (bigD z)) ?_
  try simp (maxSteps:=9^9) only[go_sem]
  try simp (maxSteps:=9^9) only[go_sem,h1']
  repeat refine AI ?_
  refine cw (implNatOk_fn (natL n)) ?_
  try simp (maxSteps:=9^9) only[go_sem]
  try simp (maxSteps:=9^9) only[go_sem,h2,h3',h4',h5']
  repeat refine AI ?_
  refine cw (isOne_fn n) ?_
  try simp (maxSteps:=9^9) only[go_sem]
  try simp (maxSteps:=9^9) only[go_sem,hn]
  simp
 ·refine fe Tryz.func111 Tryz.ntmps111 Tryz.results111 fun hwf=>?_
  try simp (maxSteps:=9^9) only[go_sem]
  repeat refine AI ?_
  refine cw (implBigIntOk_fn (bigD z)) ?_
  try simp (maxSteps:=9^9) only[go_sem]
  try simp (maxSteps:=9^9) only[go_sem,h1']
  repeat refine AI ?_
  refine cw (implNatOk_fn (natL n)) ?_
  try simp (maxSteps:=9^9) only[go_sem]
  try simp (maxSteps:=9^9) only[go_sem,h2,h3',h4',h5']
  repeat refine AI ?_
  refine cw (isOne_fn n) ?_
  try simp (maxSteps:=9^9) only[go_sem]
  try simp (maxSteps:=9^9) only[go_sem,hn]
  repeat refine AI ?_
  refine cw (natGcd_fn z.natAbs n (by omega) (by omega)) ?_
  try simp (maxSteps:=9^9) only[go_sem]
  repeat refine AI ?_
  refine cw (isOne_fn (Nat.gcd z.natAbs n)) ?_
  try simp (maxSteps:=9^9) only[go_sem]
theorem specRatOk_fn (r:DR):Fn Tryz.prog 78 [⟨tRat,r⟩] false [⟨.bool,okR r⟩]:=by
 obtain ⟨x,d⟩:=r
 rw [okR_eq]
 cases h1:okB x
 ·refine fe Tryz.func78 Tryz.ntmps78 Tryz.results78 fun hwf=>?_
  try simp (maxSteps:=9^9) only[go_sem]
  repeat refine AI ?_
  refine cw (specBigIntOk_fn x) ?_
  try simp (maxSteps:=9^9) only[go_sem]
  try simp (maxSteps:=9^9) only[go_sem,h1]
 cases h2:okN d
 ·refine fe Tryz.func78 Tryz.ntmps78 Tryz.results78 fun hwf=>?_
  try simp (maxSteps:=9^9) only[go_sem]
  repeat refine AI ?_
  refine cw (specBigIntOk_fn x) ?_
  try simp (maxSteps:=9^9) only[go_sem]
  try simp (maxSteps:=9^9) only[go_sem,h1]
  repeat refine AI ?_
  refine cw (specNatOk_fn d) ?_
  try simp (maxSteps:=9^9) only[go_sem]
  try simp (maxSteps:=9^9) only[go_sem,h2]
 by_cases h3:(d.length:Int)=0
 ·refine fe Tryz.func78 Tryz.ntmps78 Tryz.results78 fun hwf=>?_
  try simp (maxSteps:=9^9) only[go_sem]
  repeat refine AI ?_
  refine cw (specBigIntOk_fn x) ?_
  try simp (maxSteps:=9^9) only[go_sem]
  try simp (maxSteps:=9^9) only[go_sem,h1]
  repeat refine AI ?_
  refine cw (specNatOk_fn d) ?_
  try simp (maxSteps:=9^9) only[go_sem]
  try simp (maxSteps:=9^9) only[go_sem,h2,h3]
 by_cases h5:24 < (d.length:Int)
 ·refine fe Tryz.func78 Tryz.ntmps78 Tryz.results78 fun hwf=>?_
  try simp (maxSteps:=9^9) only[go_sem]
  repeat refine AI ?_
  refine cw (specBigIntOk_fn x) ?_
  try simp (maxSteps:=9^9) only[go_sem]
  try simp (maxSteps:=9^9) only[go_sem,h1]
  repeat refine AI ?_
  refine cw (specNatOk_fn d) ?_
  try simp (maxSteps:=9^9) only[go_sem]
  try simp (maxSteps:=9^9) only[go_sem,h2,h3,h5]
 by_cases h4:24 < (x.2.length:Int)
 ·refine fe Tryz.func78 Tryz.ntmps78 Tryz.results78 fun hwf=>?_
  try simp (maxSteps:=9^9) only[go_sem]
  repeat refine AI ?_
  refine cw (specBigIntOk_fn x) ?_
  try simp (maxSteps:=9^9) only[go_sem]
  try simp (maxSteps:=9^9) only[go_sem,h1]
  repeat refine AI ?_
  refine cw (specNatOk_fn d) ?_
  try simp (maxSteps:=9^9) only[go_sem]
  try simp (maxSteps:=9^9) only[go_sem,h2,h3,h5,h4]
 obtain ⟨z,rfl,_⟩:=okBP_iff.1 (okB_iff.1 h1)
 obtain ⟨n,rfl,_⟩:=okNP_iff.1 (okN_iff.1 h2)
 have h1':okB (decide (z < 0),natL z.natAbs)=true:=h1
 have h3':¬ (nl n:Int)=0:=h3
 have h4':¬ 24 < (nl z.natAbs:Int):=h4
 have h5':¬ 24 < (nl n:Int):=h5
 have hv:val (bigD z).2=z.natAbs:=val_natL _
 rw [hv,val_natL]
 refine fe Tryz.func78 Tryz.ntmps78 Tryz.results78 fun hwf=>?_
 try simp (maxSteps:=9^9) only[go_sem]
 repeat refine AI ?_
 refine cw (specBigIntOk_fn (bigD z)) ?_
 try simp (maxSteps:=9^9) only[go_sem]
 try simp (maxSteps:=9^9) only[go_sem,h1']
 repeat refine AI ?_
 refine cw (specNatOk_fn (natL n)) ?_
 try simp (maxSteps:=9^9) only[go_sem]
 try simp (maxSteps:=9^9) only[go_sem,h2,h3',h4',h5']
 repeat refine AI ?_
 refine cw (l02Gcd_fn z.natAbs n (by omega) (by omega)) ?_
 try simp (maxSteps:=9^9) only[go_sem]
 repeat refine AI ?_
 refine cw (l04One_fn (Nat.gcd z.natAbs n)) ?_
 try simp (maxSteps:=9^9) only[go_sem]
def isD (c:UInt8):Prop:=48<=c.toNat/\c.toNat<=57
def digP (s:List UInt8):Prop:=s ≠ []/\∀ c ∈ s,isD c
def dvN:Nat->List UInt8->Nat
 | n,[]=>n
 | n,c :: s=>dvN (10 * n+(c.toNat - 48)) s
def dv (s:List UInt8):Nat:=dvN 0 s
theorem dvN_app (s t:List UInt8):∀ n,dvN n (s++t)=dvN (dvN n s) t:=by
 induction s with
 | nil=>intro n; rfl
 | cons c s ih=>intro n; exact ih _
theorem dvN_lt (s:List UInt8) (h:∀ c ∈ s,isD c):∀ n,dvN n s < (n+1) * 10 ^ s.length:=by
 induction s with
 | nil=>intro n; rw [List.length_nil,Nat.pow_zero,Nat.mul_one]; exact Nat.lt_succ_self n
 | cons c s ih =>
  intro n
  obtain ⟨_,hc2⟩:=h c List.mem_cons_self
  have h1:=ih (fun x hx=>h x (List.mem_cons_of_mem _ hx)) (10 * n+(c.toNat - 48))
  have e:(n+1) * 10 ^ (c :: s).length=(10 * n+10) * 10 ^ s.length:=by
   rw [List.length_cons,Nat.pow_succ,Nat.mul_comm (10 ^ s.length) 10,<-Nat.mul_assoc,Nat.add_mul,Nat.mul_comm n 10]
  rw [e]
  have h2:10 * n+(c.toNat - 48)+1<=10 * n+10:=by omega
  have h3:dvN n (c :: s)=dvN (10 * n+(c.toNat - 48)) s:=rfl
  rw [h3]
  exact Nat.lt_of_lt_of_le h1 (Nat.mul_le_mul h2 (Nat.le_refl (10 ^ s.length)))
theorem dg1_isD {n:Int} (h0:0<=n) (h:n<=9):isD (dg1 n)/\(dg1 n).toNat=48+n.toNat:=by
 have:(dg1 n).toNat=48+n.toNat:=by
  rw [dg1,UInt8.toNat_ofNat']
  omega
 exact ⟨by unfold isD; omega,this⟩
theorem dgs_dig:∀ (k:Nat) (n:Int),0<=n->n.toNat<=k->(∀ c ∈ dgs n,isD c)/\dv (dgs n)=n.toNat/\dgs n ≠ []:=by
 intro k
 induction k with
 | zero =>
  intro n h0 hk
  obtain rfl:n=0:=by omega
  rw [dgs_lt (by omega) (by omega)]
  have:=dg1_isD (n:=0) (by omega) (by omega)
  refine ⟨fun c hc=>by rw [List.mem_singleton.1 hc]; exact this.1,?_,by simp⟩
  show 10 * 0+((dg1 0).toNat - 48)=_
  rw [this.2]; rfl
 | succ k ih =>
  intro n h0 hk
  by_cases h9:n<=9
  ·rw [dgs_lt h0 h9]
   have:=dg1_isD h0 h9
   refine ⟨fun c hc=>by rw [List.mem_singleton.1 hc]; exact this.1,?_,by simp⟩
   show 10 * 0+((dg1 n).toNat - 48)=_
   rw [this.2]; omega
  ·rw [dgs_ge (by omega)]
   obtain ⟨h1,h2,h3⟩:=ih (n / 10) (by omega) (by omega)
   have:=dg1_isD (n:=n % 10) (by omega) (by omega)
   refine ⟨fun c hc=>?_,?_,by simp⟩
   ·rcases List.mem_append.1 hc with hc|hc
    ·exact h1 c hc
    ·rw [List.mem_singleton.1 hc]; exact this.1
   ·rw [dv,dvN_app]
    rw [dv] at h2
    rw [h2]
    show 10 * (n / 10).toNat+((dg1 (n % 10)).toNat - 48)=_
    rw [this.2]; omega
theorem dgs_D {n:Int} (h0:0<=n):∀ c ∈ dgs n,isD c:=(dgs_dig _ n h0 (Nat.le_refl _)).1
theorem dgs_dv {n:Int} (h0:0<=n):dv (dgs n)=n.toNat:=(dgs_dig _ n h0 (Nat.le_refl _)).2.1
theorem dgs_ne {n:Int} (h0:0<=n):dgs n ≠ []:=(dgs_dig _ n h0 (Nat.le_refl _)).2.2
theorem dgs_head:∀ (k:Nat) (n:Int),1<=n->n.toNat<=k->∃ c s,dgs n=c :: s/\c ≠ 48:=by
 intro k
 induction k with
 | zero=>intro n h0 hk; omega
 | succ k ih =>
  intro n h0 hk
  by_cases h9:n<=9
  ·refine ⟨dg1 n,[],dgs_lt (by omega) h9,fun e=>?_⟩
   have:=(dg1_isD (n:=n) (by omega) h9).2
   rw [e] at this
   have h48:(48:UInt8).toNat=48:=rfl
   omega
  ·obtain ⟨c,s,e,hc⟩:=ih (n / 10) (by omega) (by omega)
   exact ⟨c,s++[dg1 (n % 10)],by rw [dgs_ge (by omega),e]; rfl,hc⟩
theorem dvN_zeros (s:List UInt8):∀ k,dvN 0 (List.replicate k 48++s)=dvN 0 s
 | 0=>rfl
 | k+1=>by
  rw [List.replicate_succ]
  exact dvN_zeros s k
theorem pad_dv (l:List UInt8) (n:Nat):dv (pad l n)=dv l:=dvN_zeros _ _
theorem pad_D {l:List UInt8} (h:∀ c ∈ l,isD c) (n:Nat):∀ c ∈ pad l n,isD c:=by
 intro c hc
 rcases List.mem_append.1 hc with hc|hc
 ·rw [List.eq_of_mem_replicate hc]; exact ⟨by decide,by decide⟩
 ·exact h c hc
def lim9 (s:List UInt8):List Int :=
 if h:s=[] then [] else (dv (s.drop (s.length - 9)):Int) :: lim9 (s.take (s.length - 9))
termination_by s.length
decreasing_by
 have:0 < s.length:=List.length_pos_iff.2 h
 rw [List.length_take]; omega
theorem lim9_nil:lim9 []=[]:=by rw [lim9,dif_pos rfl]
theorem lim9_app (x y:List UInt8) (hy:y.length=9):lim9 (x++y)=(dv y:Int) :: lim9 x:=by
 have hne:x++y ≠ []:=fun h=>by rw [(List.append_eq_nil_iff.1 h).2] at hy; cases hy
 rw [lim9,dif_neg hne]
 have hl:(x++y).length - 9=x.length:=by rw [List.length_append]; omega
 rw [hl,List.drop_left,List.take_left]
theorem lim9_short {x:List UInt8} (h:x ≠ []) (hx:x.length<=9):lim9 x=[(dv x:Int)]:=by
 rw [lim9,dif_neg h,show x.length - 9=0 by omega,List.drop_zero,List.take_zero,lim9_nil]
theorem lim9_len (s:List UInt8):(lim9 s).length=(s.length+8) / 9:=by
 induction h:s.length using Nat.strongRecOn generalizing s with
 | ind n ih =>
  by_cases hs:s=[]
  ·subst hs; rw [lim9_nil]; simp at h; subst h; rfl
  ·have hp:=List.length_pos_iff.2 hs
   rw [lim9,dif_neg hs,List.length_cons,ih (s.take (s.length - 9)).length (by rw [List.length_take]; omega) _ rfl,List.length_take]
   omega
theorem lim9_mem (s:List UInt8) (hd:∀ c ∈ s,isD c):∀ d ∈ lim9 s,isLb d:=by
 induction h:s.length using Nat.strongRecOn generalizing s with
 | ind n ih =>
  by_cases hs:s=[]
  ·subst hs; rw [lim9_nil]; intro d h; cases h
  ·have hp:=List.length_pos_iff.2 hs
   rw [lim9,dif_neg hs]
   intro d hdm
   rcases List.mem_cons.1 hdm with rfl|hdm
   ·have h1:=dvN_lt (s.drop (s.length - 9)) (fun c hc=>hd c (List.mem_of_mem_drop hc)) 0
    have h2:(s.drop (s.length - 9)).length<=9:=by rw [List.length_drop]; omega
    have h3:10 ^ (s.drop (s.length - 9)).length<=10 ^ 9:=Nat.pow_le_pow_right (by decide) h2
    have h4:dv (s.drop (s.length - 9)) < 1000000000:=by show dvN 0 _ < _; omega
    exact ⟨by omega,by omega⟩
   ·exact ih (s.take (s.length - 9)).length (by rw [List.length_take]; omega) _ (fun c hc=>hd c (List.mem_of_mem_take hc)) rfl d hdm
theorem lim9_fmt {l:List Int} (h:lbs l) (x:List UInt8):∀ k,k<=l.length->lim9 (x++fmtR l k)=l.take k++lim9 x:=by
 intro k
 induction k generalizing x with
 | zero=>intro _; simp [fmtR]
 | succ k ih =>
  intro hk
  have hp:=pad9 h (i:=k) (by omega)
  rw [fmtR,<-List.append_assoc,ih _ (by omega),lim9_app _ _ hp.2,pad_dv,dgs_dv (h k (by omega)).1]
  have e:((ni l k).toNat:Int)=l[k]:=by rw [ni_lt (by omega)]; have:=(h k (by omega)).1; rw [ni_lt (by omega)] at this; omega
  rw [e,<-List.take_append_getElem (by omega:k < l.length),List.append_assoc]
  rfl
theorem trimL_self {l:List Int} (h:l.length=0\/ni l (l.length - 1) ≠ 0):trimL l=l:=by
 unfold trimL
 rcases h with h|h
 ·rw [List.eq_nil_of_length_eq_zero h]; rfl
 ·obtain ⟨n,hn⟩:∃ n,l.length=n+1\/l.length=0:=⟨l.length - 1,by omega⟩
  rcases hn with hn|hn
  ·rw [hn] at h ⊢
   rw [Nat.add_sub_cancel] at h
   rw [trimN,if_neg h,<-hn,List.take_length]
  ·rw [List.eq_nil_of_length_eq_zero hn]; rfl
def numP (s:List UInt8):Prop:=digP s/\s.length<=540/\¬ (1 < s.length/\s.headD 0=48)
open Classical in
noncomputable def pN (s:List UInt8):Option (List Int):=if numP s then some (trimL (lim9 s)) else none
theorem fmtR_D {l:List Int} (h:lbs l):∀ k,k<=l.length->∀ c ∈ fmtR l k,isD c
 | 0,_=>fun c hc=>by cases hc
 | k+1,hk=>fun c hc=>by
  rcases List.mem_append.1 hc with hc|hc
  ·exact pad_D (dgs_D (h k (by omega)).1) 9 c hc
  ·exact fmtR_D h k (by omega) c hc
theorem fmtN_D {l:List Int} (h:lbs l):∀ c ∈ fmtN l,isD c:=by
 intro c hc
 unfold fmtN at hc
 split at hc
 ·rw [List.mem_singleton.1 hc]; exact ⟨by decide,by decide⟩
 ·rcases List.mem_append.1 hc with hc|hc
  ·exact dgs_D (h _ (by omega)).1 c hc
  ·exact fmtR_D h _ (by omega) c hc
theorem pN_fmt {l:List Int} (h:okNP l):pN (fmtN l)=some l:=by
 have hl:lbs l:=fun i hi=>by rw [ni_lt hi]; exact h.1 _ (List.getElem_mem hi)
 by_cases h0:l.length=0
 ·obtain rfl:=List.eq_nil_of_length_eq_zero h0
  have e:fmtN []=[48]:=if_pos rfl
  rw [e]
  have hn:numP [48]:=⟨⟨by simp,fun c hc=>by rw [List.mem_singleton.1 hc]; exact ⟨by decide,by decide⟩⟩,by decide,fun h=>absurd h.1 (by decide)⟩
  rw [pN,if_pos hn,lim9_short (by simp) (by decide)]
  have:(dv [48]:Int)=0:=rfl
  rw [this]; rfl
 ·have e:fmtN l=dgs (ni l (l.length - 1))++fmtR l (l.length - 1):=if_neg h0
  have ht:=hl (l.length - 1) (by omega)
  have h1:1<=ni l (l.length - 1):=by
   have:=h.2.2.resolve_left h0
   omega
  obtain ⟨c,s,hcs,hc⟩:=dgs_head _ _ h1 (Nat.le_refl _)
  have hp:=pad9 hl (i:=l.length - 1) (by omega)
  have hlen:=fmtR_len hl (l.length - 1) (by omega)
  have hn:numP (fmtN l):=by
   refine ⟨⟨by rw [e,hcs]; simp,fmtN_D hl⟩,by rw [e,List.length_append]; have:=h.2.1; omega,fun ⟨_,hh⟩=>?_⟩
   rw [e,hcs] at hh
   exact hc hh
  rw [pN,if_pos hn,e,lim9_fmt hl _ _ (by omega),lim9_short (dgs_ne ht.1) hp.1,dgs_dv ht.1]
  have e2:((ni l (l.length - 1)).toNat:Int)=l[l.length - 1]:=by rw [ni_lt (by omega)]; have:=ht.1; rw [ni_lt (by omega)] at this; omega
  rw [e2,List.take_append_getElem (by omega:l.length - 1 < l.length),show l.length - 1+1=l.length by omega,List.take_length,trimL_self h.2.2]
theorem trimN_last (l:List Int):∀ n,trimN l n=0\/ni l (trimN l n - 1) ≠ 0
 | 0=>.inl rfl
 | n+1=>by
  unfold trimN
  split
  ·exact trimN_last l n
  ·rename_i h; exact .inr h
theorem trimL_last (l:List Int):(trimL l).length=0\/ni (trimL l) ((trimL l).length - 1) ≠ 0:=by
 have hle:=trimN_le l l.length
 have hlen:(trimL l).length=trimN l l.length:=by rw [trimL,List.length_take]; omega
 rcases trimN_last l l.length with h|h
 ·exact .inl (by rw [hlen]; exact h)
 ·by_cases h0:trimN l l.length=0
  ·exact .inl (by rw [hlen]; exact h0)
  ·refine .inr ?_
   rw [hlen,ni_lt (by omega)]
   rw [ni_lt (by omega)] at h
   simpa [trimL] using h
theorem pN_ok {s:List UInt8} {a:List Int} (h:pN s=some a):okNP a/\numP s:=by
 unfold pN at h
 split at h
 ·rename_i hn
  injection h with h
  subst h
  refine ⟨⟨fun d hd=>lim9_mem s hn.1.2 d (List.mem_of_mem_take hd),?_,?_⟩,hn⟩
  ·have h1:=lim9_len s
   have h2:=hn.2.1
   rw [trimL,List.length_take]; omega
  ·exact trimL_last _
 ·cases h
theorem trimmed_run (l:List Int) (w:World) (g cap:Nat) (hc:∀ i,i < l.length->w.cell? ⟨g,i,none⟩=some (.int .i64 (ni l i))) (h1:l.length<=cap) (h2:cap<=maxLen) :
  Calls Tryz.prog 149 #[.slice (some ⟨g,0,none⟩) l.length cap] w fun e w'=>e=.returned (.slice (some ⟨g,0,none⟩) (trimL l).length cap)/\w'=w:=by
 have hml:(l.length:Int)<=9223372036854775807:=by unfold maxLen at h2; omega
 have htl:(trimL l).length=trimN l l.length:=by rw [trimL,List.length_take]; have:=trimN_le l l.length; omega
 rw [htl]
 go_enter Tryz.func149,Tryz.ntmps149
 go_wp2
 go_loopw [3] (fun iv wr=>wr=w/\∃ (k:Nat),iv=.int .i64 (k:Int)/\k<=l.length/\trimN l k=trimN l l.length) (fun iv _=>(Lib.intOf iv).toNat)
 case atStart=>exact ⟨rfl,l.length,rfl,Nat.le_refl _,rfl⟩
 case round =>
  obtain ⟨rfl,k,rfl,hk,ht⟩:=hrel
  by_cases hz:k=0
  ·subst hz
   go_wp2
   go_ret
   exact ⟨by rw [<-ht]; rfl,rfl⟩
  ·obtain ⟨m,rfl⟩:∃ m,k=m+1:=⟨k - 1,by omega⟩
   have hcm:=hc m (by omega)
   have e1:((m+1:Nat):Int) - 1=(m:Int):=by omega
   have e2:(0:Int) < ((m+1:Nat):Int):=by omega
   have e3:(m:Int) < (l.length:Int):=by omega
   clear hc
   by_cases h0:ni l m=0
   ·go_wp2
    refine ⟨⟨trivial,m,rfl,by omega,by rw [<-ht,trimN,if_pos h0]⟩,by simp only [Lib.intOf_int]; omega⟩
   ·go_wp2
    go_ret
    exact ⟨by rw [<-ht,trimN,if_neg h0]; rfl,rfl⟩
theorem trimmed_none (w:World):Calls Tryz.prog 149 #[.slice none 0 0] w fun e w'=>e=.returned (.slice none 0 0)/\w'=w:=by
 go_enter Tryz.func149,Tryz.ntmps149
 go_wp2
 go_loopw [3] (fun iv wr=>wr=w/\iv=.int .i64 0) (fun iv _=>(Lib.intOf iv).toNat)
 case atStart=>exact ⟨rfl,rfl⟩
 case round =>
  obtain ⟨rfl,rfl⟩:=hrel
  go_wp2
  go_ret
  exact ⟨rfl,rfl⟩
theorem trimmed_r (l:List Int):FnR Tryz.prog 149 [] 3 .int l (trimL l) true:=by
 refine ⟨enters_of Tryz.func149 (by kernel_rfl) rfl,rfl,fun w base v fps hone hgr=>?_⟩
 obtain ⟨xs,⟨hxl,ho⟩,hfl,hel⟩:=hgr
 have hsz:(Ty.int).rp.size=1:=rfl
 have htl:(trimL l).length<=l.length:=by rw [trimL,List.length_take]; omega
 have hgb:w.grownBy w v.ownBlock:=⟨rfl,rfl,rfl,Nat.le_refl _,fun k _ _=>rfl⟩
 have hel2:∀ i x,(trimL l)[i]? = some x->∃ f cs,(fps.take (trimL l).length)[i]? = some f/\(Ty.int).rp.rep w cs x f/\∀ j d,cs[j]? = some d->(xs.take (trimL l).length)[i * (Ty.int).rp.size+j]? = some d:=by
  intro i x hi
  have hlt:i < (trimL l).length:=(List.getElem?_eq_some_iff.1 hi).1
  have hi2:l[i]? = some x:=by
   rw [trimL,List.getElem?_take] at hi
   split at hi
   ·exact hi
   ·cases hi
  obtain ⟨f,cs,h1,h2,h3⟩:=hel i x hi2
  refine ⟨f,cs,by rw [List.getElem?_take,if_pos hlt]; exact h1,h2,fun j d hj=>?_⟩
  have hj0:j=0:=by
   have:=(List.getElem?_eq_some_iff.1 hj).1
   have hl:=(Ty.int).rp.len h2
   rw [hsz] at hl; omega
  subst hj0
  rw [hsz,Nat.mul_one,Nat.add_zero,List.getElem?_take,if_pos hlt]
  have:=h3 0 d hj
  rwa [hsz,Nat.mul_one,Nat.add_zero] at this
 rcases ho with ⟨rfl,hn⟩|⟨g,cap,cur,rfl,hbg,hg,hnc,hcm,hcs,htk⟩
 ·obtain rfl:=List.eq_nil_of_length_eq_zero hn
  refine (trimmed_none w).mono ?_
  rintro en w' ⟨rfl,rfl⟩
  exact ⟨_,[],rfl,(fun h=>by cases h),rfl,rfl,⟨[],⟨rfl,.inl ⟨rfl,rfl⟩⟩,rfl,fun i x hi=>by cases i<;>cases hi⟩,hgb⟩
 ·have hc:∀ i,i < l.length->w.cell? ⟨g,i,none⟩=some (.int .i64 (ni l i)):=by
   intro i hi
   obtain ⟨f,cs,_,⟨hcs2,_⟩,h3⟩:=hel i _ (List.getElem?_eq_getElem hi)
   have:=h3 0 _ (by rw [hcs2]; rfl)
   rw [hsz,Nat.mul_one,Nat.add_zero,<-htk,List.getElem?_take] at this
   split at this
   ·rw [ni_lt hi,cell_of_row w g _ cur _ (0,0) hg,<-Array.getElem?_toList]; exact this
   ·cases this
  refine (trimmed_run l w g cap hc hnc hcm).mono ?_
  rintro en w' ⟨rfl,rfl⟩
  refine ⟨_,fps.take (trimL l).length,rfl,(fun h=>by cases h),rfl,rfl,⟨xs.take (trimL l).length,⟨?_,.inr ⟨g,cap,cur,rfl,hbg,hg,by omega,hcm,hcs,?_⟩⟩,by rw [List.length_take]; omega,hel2⟩,hgb⟩
  ·rw [List.length_take,hxl,hsz]; omega
  ·rw [hsz,Nat.mul_one,<-htk,hsz,Nat.mul_one,List.take_take]
   congr 1; omega
def allD (s:List UInt8):Prop:=∀ c ∈ s,isD c
def dTo (s:List UInt8) (k:Nat):Prop:=∀ i,i < k->i < s.length->isD (s.getD i 0)
theorem dTo_all {s:List UInt8}:dTo s s.length ↔ allD s:=by
 constructor
 ·intro h c hc
  obtain ⟨i,hi,rfl⟩:=List.getElem_of_mem hc
  have:=h i hi hi
  rwa [List.getD_eq_getElem?_getD,List.getElem?_eq_getElem hi] at this
 ·intro h i _ hi
  rw [List.getD_eq_getElem?_getD,List.getElem?_eq_getElem hi]
  exact h _ (List.getElem_mem hi)
theorem dTo_step {s:List UInt8} {k:Nat} (h:dTo s k) (hk:isD (s.getD k 0)):dTo s (k+1):=fun i hi hl=>by
 by_cases e:i=k
 ·rw [e]; exact hk
 ·exact h i (by omega) hl
theorem not_all {s:List UInt8} {k:Nat} (hk:k < s.length) (h:¬ isD (s.getD k 0)):¬ allD s:=fun ha=>h (dTo_all.2 ha k hk hk)
theorem areOf_fn (s:List UInt8) (hl:s.length<=1048576):Fn Tryz.prog 171 [⟨.str,bs s⟩,⟨.u8,(48:Int)⟩,⟨.u8,(57:Int)⟩] false [⟨.bool,bdec (allD s)⟩]:=by
 refine fe Tryz.func171 Tryz.ntmps171 Tryz.results171 fun hwf=>?_
 try simp (maxSteps:=9^9) only[go_sem]
 refine LoopG.intro _ _ _ (fun k:Nat=>⟨[(0,.sc (.string (bs s))),(1,.sc (.int .u8 48)),(2,.sc (.int .u8 57)),(9,.sc (.int .i64 s.length)),(10,.sc (.int .i64 k))],[]⟩) (fun k=>k<=s.length/\dTo s k) (fun k=>s.length - k) 0 ?_ ⟨Nat.zero_le _,fun i h=>by omega⟩ ?_
 ·exact WK
 ·rintro k ⟨h1,h2⟩
  try simp (maxSteps:=9^9) only[go_sem]
  refine CondW_dec (fun h4=>?_) (fun h4=>?_)
  ·have hk:k < s.length:=by omega
   try simp (maxSteps:=9^9) only[go_sem]
   repeat refine AI ?_
   refine GuardW_decf (fun h=>?_) (fun h=>?_)
   ·try simp (maxSteps:=9^9) only[go_sem]
    repeat refine AI ?_
    refine CondW_dec (fun h5=>?_) (fun h5=>?_)
    ·rw [bdec_f (not_all hk fun hd=>by have:=hd.2; omega)]
     try simp (maxSteps:=9^9) only[go_sem]
    ·try simp (maxSteps:=9^9) only[go_sem]
     refine ⟨by constructor<;>omega,LoopK.mk (k+1) ?_ ⟨by omega,dTo_step h2 ⟨by omega,by omega⟩⟩ (by omega)⟩
     exact WK
   ·rw [bdec_f (not_all hk fun hd=>by have:=hd.1; omega)]
    try simp (maxSteps:=9^9) only[go_sem]
  ·obtain rfl:k=s.length:=by omega
   rw [bdec_t (dTo_all.1 h2)]
   try simp (maxSteps:=9^9) only[go_sem]
theorem isDigits_fn (s:List UInt8) (hl:s.length<=1048576):Fn Tryz.prog 148 [⟨.str,bs s⟩] false [⟨.bool,bdec (digP s)⟩]:=by
 by_cases h0:s=[]
 ·rw [bdec_f (fun h=>h.1 h0)]
  subst h0
  refine fe Tryz.func148 Tryz.ntmps148 Tryz.results148 fun hwf=>?_
  try simp (maxSteps:=9^9) only[go_sem]
 ·refine fe Tryz.func148 Tryz.ntmps148 Tryz.results148 fun hwf=>?_
  try simp (maxSteps:=9^9) only[go_sem,h0]
  repeat refine AI ?_
  refine cw (areOf_fn s hl) ?_
  try simp (maxSteps:=9^9) only[go_sem]
  by_cases ha:allD s
  ·rw [bdec_t ha,bdec_t ⟨h0,ha⟩]
  ·rw [bdec_f ha,bdec_f fun h=>ha h.2]
def rdN (s:List UInt8) (a k:Nat):Nat:=dv ((s.drop a).take k)
theorem rdN_step {s:List UInt8} {a k:Nat} (h:a+k < s.length):rdN s a (k+1)=10 * rdN s a k+((s.getD (a+k) 0).toNat - 48):=by
 have hd:(s.drop a).take (k+1)=(s.drop a).take k++[s.getD (a+k) 0]:=by
  have hl:k < (s.drop a).length:=by rw [List.length_drop]; omega
  rw [<-List.take_append_getElem hl,List.getElem_drop,List.getD_eq_getElem?_getD,List.getElem?_eq_getElem h]; rfl
 rw [rdN,hd,dv,dvN_app]; rfl
theorem rdN_lt {s:List UInt8} (hd:allD s) (a:Nat) {k:Nat} (hk:k<=9):rdN s a k < 1000000000:=by
 have h1:=dvN_lt ((s.drop a).take k) (fun c hc=>hd c (List.mem_of_mem_drop (List.mem_of_mem_take hc))) 0
 have h2:((s.drop a).take k).length<=9:=by rw [List.length_take]; omega
 have h3:10 ^ ((s.drop a).take k).length<=10 ^ 9:=Nat.pow_le_pow_right (by decide) h2
 show dvN 0 _ < _
 omega
def limT (s:List UInt8) (e:Nat):List Int:=lim9 (s.drop e)
theorem lim9_cat (x:List UInt8):∀ (j:Nat) (y:List UInt8),y.length=9 * j->lim9 (x++y)=lim9 y++lim9 x
 | 0,y,h=>by
  obtain rfl:=List.eq_nil_of_length_eq_zero (by omega:y.length=0)
  rw [List.append_nil,lim9_nil]; rfl
 | j+1,y,h=>by
  have e:y=y.take (9 * j)++y.drop (9 * j):=(List.take_append_drop ..).symm
  have h1:(y.take (9 * j)).length=9 * j:=by rw [List.length_take]; omega
  have h2:(y.drop (9 * j)).length=9:=by rw [List.length_drop]; omega
  rw [e,<-List.append_assoc,lim9_app _ _ h2,lim9_app _ _ h2,lim9_cat x j _ h1]
  rfl
theorem limT_step {s:List UInt8} {a e j:Nat} (h1:a < e) (h2:e<=s.length) (h3:e<=a+9) (hj:s.length - e=9 * j):limT s a=limT s e++[(rdN s a (e - a):Int)]:=by
 have e1:s.drop a=(s.drop a).take (e - a)++s.drop e:=by
  have h:=(List.take_append_drop (e - a) (s.drop a)).symm
  rw [List.drop_drop,show a+(e - a)=e by omega] at h
  exact h
 have hl:((s.drop a).take (e - a)).length=e - a:=by rw [List.length_take,List.length_drop]; omega
 rw [limT,e1,lim9_cat _ j _ (by rw [List.length_drop]; exact hj),lim9_short (x:=(s.drop a).take (e - a)) (fun h=>by rw [h] at hl; simp at hl; omega) (by omega)]
 rfl
theorem toI_nth {s:List UInt8} {a e i:Nat} (h:a+i < e) (he:e<=s.length):@nth .u8 (toI (bs ((s.take e).drop a))) i=((s.getD (a+i) 0).toNat:Int):=by
 have hl:i < (toI (bs ((s.take e).drop a))).length:=by rw [toI,bs_list,List.length_map,List.length_drop,List.length_take]; omega
 rw [nth_lt hl]
 simp only [toI,bs_list,List.getElem_map,List.getElem_drop,List.getElem_take]
 rw [List.getD_eq_getElem?_getD,List.getElem?_eq_getElem (by omega)]; rfl
theorem toI_len {s:List UInt8} {a e:Nat} (he:e<=s.length):(toI (bs ((s.take e).drop a))).length=e - a:=by rw [toI,bs_list,List.length_map,List.length_drop,List.length_take]; omega
theorem parseNat_fn (s:List UInt8) (hl:s.length<=1048576):FnT Tryz.prog 122 [⟨.str,bs s⟩] [⟨tInts,(pN s).getD []⟩,⟨.bool,(pN s).isSome⟩]:=by
 by_cases hd:digP s
 ·by_cases hlen:540 < s.length
  ·have e:pN s=none:=if_neg fun h=>by have:=h.2.1; omega
   have h1:(540:Int) < (s.length:Int):=by omega
   rw [e]
   refine fnT_enter tabOK mixes Tryz.func122 rfl rfl _ Tryz.ntmps122 _ Tryz.results122 (by simp) fun hwf=>?_
   try simp (maxSteps:=9^9) only[go_sem]
   repeat refine AI ?_
   refine cw (isDigits_fn s hl) ?_
   try simp (maxSteps:=9^9) only[go_sem]
   rw [bdec_t hd]
   try simp (maxSteps:=9^9) only[go_sem,h1]
   rfl
  ·have h1:¬ (540:Int) < (s.length:Int):=by omega
   have hp:=List.length_pos_iff.2 hd.1
   by_cases hz:1 < s.length/\s.headD 0=48
   ·have e:pN s=none:=if_neg fun h=>h.2.2 hz
    have h2:(1:Int) < (s.length:Int):=by omega
    have h3:((s.getD 0 0).toNat:Int)=48:=by
     obtain ⟨c,t,rfl⟩:=List.exists_cons_of_ne_nil hd.1
     have:c=48:=hz.2
     subst this; rfl
    rw [e]
    refine fnT_enter tabOK mixes Tryz.func122 rfl rfl _ Tryz.ntmps122 _ Tryz.results122 (by simp) fun hwf=>?_
    try simp (maxSteps:=9^9) only[go_sem]
    repeat refine AI ?_
    refine cw (isDigits_fn s hl) ?_
    try simp (maxSteps:=9^9) only[go_sem]
    rw [bdec_t hd]
    try simp (maxSteps:=9^9) only[go_sem,h1,h2]
    refine ⟨by omega,CondW_dec (fun _=>?_) (fun h=>absurd h3 h)⟩
    try simp (maxSteps:=9^9) only[go_sem]
    rfl
   ·have hn:numP s:=⟨hd,by omega,hz⟩
    have e:pN s=some (trimL (lim9 s)):=if_pos hn
    have hlz:limT s s.length=[]:=by rw [limT,List.drop_length,lim9_nil]
    have key:AC Tryz.prog tyOf 59 Code.skip (fun _ _=>True) ⟨[],[]⟩->True:=fun _=>trivial
    clear key
    rw [e]
    by_cases h2:(1:Int) < (s.length:Int)
    ·have h3:¬ ((s.getD 0 0).toNat:Int)=48:=by
      intro h
      obtain ⟨c,t,rfl⟩:=List.exists_cons_of_ne_nil hd.1
      refine hz ⟨by omega,?_⟩
      have hc:c.toNat=48:=by
       have:(((c :: t).getD 0 0).toNat:Int)=(c.toNat:Int):=rfl
       omega
      exact UInt8.toNat_inj.1 hc
     refine fnT_enter tabOK mixes Tryz.func122 rfl rfl _ Tryz.ntmps122 _ Tryz.results122 (by simp) fun hwf=>?_
     try simp (maxSteps:=9^9) only[go_sem]
     repeat refine AI ?_
     refine cw (isDigits_fn s hl) ?_
     try simp (maxSteps:=9^9) only[go_sem]
     rw [bdec_t hd]
     try simp (maxSteps:=9^9) only[go_sem,h1,h2]
     refine ⟨by omega,CondW_dec (fun h=>absurd h h3) (fun _=>?_)⟩
     try simp (maxSteps:=9^9) only[go_sem]
     refine LoopG.intro _ _ _ (fun z:Int=>⟨[(0,.sc (.string (bs s))),(4,.row 4 0),(5,.sc (.int .i64 z))],[(4,.row 3 .int 0 true (limT s z.toNat))]⟩) (fun z=>z<=s.length/\-9<=z/\(0 < z->∃ j,s.length - z.toNat=9 * j)) (fun z=>(z+9).toNat) (s.length:Int) ?_ ⟨by omega,by omega,fun _=>⟨0,by omega⟩⟩ ?_
     ·rw [Int.toNat_natCast,hlz]
      refine Wk.mk [(4,0)] ?_
      try simp (maxSteps:=9^9) only[go_sem]
      try (and_intros<;>first|rfl|omega|exact ⟨_,rfl⟩)
     ·rintro z ⟨g1,g2,g3⟩
      try simp (maxSteps:=9^9) only[go_sem]
      refine CondW_dec (fun h4=>?_) (fun h4=>?_)
      ·obtain ⟨j,hj⟩:=g3 h4
       obtain ⟨a,ha⟩:∃ a:Nat,max 0 (z - 9)=(a:Int):=⟨(max 0 (z - 9)).toNat,by omega⟩
       have ha1:a < z.toNat:=by omega
       have ha2:z.toNat<=a+9:=by omega
       have ha3:z.toNat<=s.length:=by omega
       have ha4:(z - 9).toNat=a:=by omega
       try simp (maxSteps:=9^9) only[go_sem]
       refine ⟨by constructor<;>omega,by omega,by omega,by omega,?_⟩
       rw [ha]
       try simp (maxSteps:=9^9) only[go_sem]
       rw [toI_len ha3]
       refine LoopG.intro _ _ _ (fun i:Nat=>⟨[(0,.sc (.string (bs s))),(4,.row 4 0),(5,.sc (.int .i64 z)),(6,.sc (.int .i64 (rdN s a i))),(40,.sl .u8 (toI (bs ((s.take z.toNat).drop a)))),(41,.sc (.int .i64 ((z.toNat - a:Nat):Int))),(42,.sc (.int .i64 i))],[(4,.row 3 .int 0 true (limT s z.toNat))]⟩) (fun i=>i<=z.toNat - a) (fun i=>z.toNat - a - i) 0 ?_ (Nat.zero_le _) ?_
       ·exact WK
       ·rintro i hi
        try simp (maxSteps:=9^9) only[go_sem]
        refine CondW_dec (fun h5=>?_) (fun h5=>?_)
        ·have hd2:=hd.2 (s.getD (a+i) 0) (by rw [List.getD_eq_getElem?_getD,List.getElem?_eq_getElem (by omega)]; exact List.getElem_mem _)
         have hr:=rdN_lt hd.2 a (k:=i) (by omega)
         have hst:=rdN_step (s:=s) (a:=a) (k:=i) (by omega)
         have hby:@nth .u8 (toI (bs ((s.take z.toNat).drop a))) i=((s.getD (a+i) 0).toNat:Int):=toI_nth (by omega) ha3
         obtain ⟨hd3,hd4⟩:=hd2
         try simp (maxSteps:=9^9) only[go_sem,hby]
         refine ⟨by omega,by rw [toI_len ha3]; omega,by constructor<;>omega,by omega,by omega,by constructor<;>omega,by constructor<;>omega,LoopK.mk (i+1) ?_ (by omega) (by omega)⟩
         rw [show (10 * (rdN s a i:Int)+(((s.getD (a+i) 0).toNat:Int) - 48))=((rdN s a (i+1):Nat):Int) by omega]
         exact WK
        ·obtain rfl:i=z.toNat - a:=by omega
         have hll:=lim9_len (s.drop z.toNat)
         have hll2:(limT s z.toNat).length<=1048576:=by rw [limT,hll,List.length_drop]; omega
         try simp (maxSteps:=9^9) only[go_sem]
         refine ⟨by omega,by omega,by constructor<;>omega,LoopK.mk (z - 9) ?_ ⟨by omega,by omega,fun _=>⟨j+1,by omega⟩⟩ (by omega)⟩
         rw [ha4,limT_step ha1 ha3 ha2 hj]
         exact WK
      ·have hz0:limT s z.toNat=lim9 s:=by rw [show z.toNat=0 by omega,limT,List.drop_zero]
       rw [hz0]
       try simp (maxSteps:=9^9) only[go_sem]
       repeat refine AI ?_
       refine CallW.r (k:=4) (ver:=0) (o:=true) (trimmed_r (lim9 s)) ?_
       try simp (maxSteps:=9^9) only[go_sem]
    ·refine fnT_enter tabOK mixes Tryz.func122 rfl rfl _ Tryz.ntmps122 _ Tryz.results122 (by simp) fun hwf=>?_
     try simp (maxSteps:=9^9) only[go_sem]
     repeat refine AI ?_
     refine cw (isDigits_fn s hl) ?_
     try simp (maxSteps:=9^9) only[go_sem]
     rw [bdec_t hd]
     try simp (maxSteps:=9^9) only[go_sem,h1,h2]
     refine LoopG.intro _ _ _ (fun z:Int=>⟨[(0,.sc (.string (bs s))),(4,.row 4 0),(5,.sc (.int .i64 z))],[(4,.row 3 .int 0 true (limT s z.toNat))]⟩) (fun z=>z<=s.length/\-9<=z/\(0 < z->∃ j,s.length - z.toNat=9 * j)) (fun z=>(z+9).toNat) (s.length:Int) ?_ ⟨by omega,by omega,fun _=>⟨0,by omega⟩⟩ ?_
     ·rw [Int.toNat_natCast,hlz]
      refine Wk.mk [(4,0)] ?_
      try simp (maxSteps:=9^9) only[go_sem]
      try (and_intros<;>first|rfl|omega|exact ⟨_,rfl⟩)
     ·rintro z ⟨g1,g2,g3⟩
      try simp (maxSteps:=9^9) only[go_sem]
      refine CondW_dec (fun h4=>?_) (fun h4=>?_)
      ·obtain ⟨j,hj⟩:=g3 h4
       obtain ⟨a,ha⟩:∃ a:Nat,max 0 (z - 9)=(a:Int):=⟨(max 0 (z - 9)).toNat,by omega⟩
       have ha1:a < z.toNat:=by omega
       have ha2:z.toNat<=a+9:=by omega
       have ha3:z.toNat<=s.length:=by omega
       have ha4:(z - 9).toNat=a:=by omega
       try simp (maxSteps:=9^9) only[go_sem]
       refine ⟨by constructor<;>omega,by omega,by omega,by omega,?_⟩
       rw [ha]
       try simp (maxSteps:=9^9) only[go_sem]
       rw [toI_len ha3]
       refine LoopG.intro _ _ _ (fun i:Nat=>⟨[(0,.sc (.string (bs s))),(4,.row 4 0),(5,.sc (.int .i64 z)),(6,.sc (.int .i64 (rdN s a i))),(40,.sl .u8 (toI (bs ((s.take z.toNat).drop a)))),(41,.sc (.int .i64 ((z.toNat - a:Nat):Int))),(42,.sc (.int .i64 i))],[(4,.row 3 .int 0 true (limT s z.toNat))]⟩) (fun i=>i<=z.toNat - a) (fun i=>z.toNat - a - i) 0 ?_ (Nat.zero_le _) ?_
       ·exact WK
       ·rintro i hi
        try simp (maxSteps:=9^9) only[go_sem]
        refine CondW_dec (fun h5=>?_) (fun h5=>?_)
        ·have hd2:=hd.2 (s.getD (a+i) 0) (by rw [List.getD_eq_getElem?_getD,List.getElem?_eq_getElem (by omega)]; exact List.getElem_mem _)
         have hr:=rdN_lt hd.2 a (k:=i) (by omega)
         have hst:=rdN_step (s:=s) (a:=a) (k:=i) (by omega)
         have hby:@nth .u8 (toI (bs ((s.take z.toNat).drop a))) i=((s.getD (a+i) 0).toNat:Int):=toI_nth (by omega) ha3
         obtain ⟨hd3,hd4⟩:=hd2
         try simp (maxSteps:=9^9) only[go_sem,hby]
         refine ⟨by omega,by rw [toI_len ha3]; omega,by constructor<;>omega,by omega,by omega,by constructor<;>omega,by constructor<;>omega,LoopK.mk (i+1) ?_ (by omega) (by omega)⟩
         rw [show (10 * (rdN s a i:Int)+(((s.getD (a+i) 0).toNat:Int) - 48))=((rdN s a (i+1):Nat):Int) by omega]
         exact WK
        ·obtain rfl:i=z.toNat - a:=by omega
         have hll:=lim9_len (s.drop z.toNat)
         have hll2:(limT s z.toNat).length<=1048576:=by rw [limT,hll,List.length_drop]; omega
         try simp (maxSteps:=9^9) only[go_sem]
         refine ⟨by omega,by omega,by constructor<;>omega,LoopK.mk (z - 9) ?_ ⟨by omega,by omega,fun _=>⟨j+1,by omega⟩⟩ (by omega)⟩
         rw [ha4,limT_step ha1 ha3 ha2 hj]
         exact WK
      ·have hz0:limT s z.toNat=lim9 s:=by rw [show z.toNat=0 by omega,limT,List.drop_zero]
       rw [hz0]
       try simp (maxSteps:=9^9) only[go_sem]
       repeat refine AI ?_
       refine CallW.r (k:=4) (ver:=0) (o:=true) (trimmed_r (lim9 s)) ?_
       try simp (maxSteps:=9^9) only[go_sem]
 ·have e:pN s=none:=if_neg fun h=>hd h.1
  rw [e]
  refine fnT_enter tabOK mixes Tryz.func122 rfl rfl _ Tryz.ntmps122 _ Tryz.results122 (by simp) fun hwf=>?_
  try simp (maxSteps:=9^9) only[go_sem]
  repeat refine AI ?_
  refine cw (isDigits_fn s hl) ?_
  try simp (maxSteps:=9^9) only[go_sem]
  rw [bdec_f hd]
  try simp (maxSteps:=9^9) only[go_sem]
  rfl
def sgP (s:List UInt8):Prop:=∃ t,s=45 :: t
theorem sgP_take (s:List UInt8):bdec (sgP s)=decide (s.take 1=[45]):=by
 cases s with
 | nil=>rw [bdec_f (fun ⟨t,h⟩=>by cases h)]; rfl
 | cons c t =>
  by_cases hc:c=45
  ·subst hc; rw [bdec_t ⟨t,rfl⟩]; rfl
  ·rw [bdec_f (fun ⟨t,h⟩=>hc (List.cons.inj h).1)]
   exact (decide_eq_false fun h=>hc (List.cons.inj h).1).symm
theorem hasPrefix_fn (s:List UInt8) (hl:s.length<=1048576):Fn Tryz.prog 189 [⟨.str,bs s⟩,⟨.str,bs [45]⟩] false [⟨.bool,bdec (sgP s)⟩]:=by
 rw [sgP_take]
 refine fe Tryz.func189 Tryz.ntmps189 Tryz.results189 fun hwf=>?_
 try simp (maxSteps:=9^9) only[go_sem]
 refine GuardW_dec (fun h=>?_) (fun h=>?_)
 ·try simp (maxSteps:=9^9) only[go_sem]
  exact ⟨by decide,h⟩
 ·have h0:s=[]:=by
   cases s with
   | nil=>rfl
   | cons c t=>exact absurd (by rw [List.length_cons]; omega) h
  subst h0
  try simp (maxSteps:=9^9) only[go_sem]
  rfl
theorem cutPrefixL_fn (s:List UInt8) (hl:s.length<=1048576):Fn Tryz.prog 170 [⟨.str,bs s⟩,⟨.str,bs [45]⟩] false [⟨.str,bs (if s.take 1=[45] then s.drop 1 else s)⟩,⟨.bool,bdec (sgP s)⟩]:=by
 rw [sgP_take]
 refine fe Tryz.func170 Tryz.ntmps170 Tryz.results170 fun hwf=>?_
 try simp (maxSteps:=9^9) only[go_sem]
 repeat refine AI ?_
 refine cw (hasPrefix_fn s hl) ?_
 try simp (maxSteps:=9^9) only[go_sem]
 rw [sgP_take]
 refine CondW_not (fun h=>?_) (fun h=>?_)
 ·rw [if_neg h,decide_eq_false h]
  try simp (maxSteps:=9^9) only[go_sem]
 ·rw [if_pos h,decide_eq_true h]
  have h1:1<=s.length:=by
   cases s with
   | nil=>cases h
   | cons c t=>rw [List.length_cons]; omega
  try simp (maxSteps:=9^9) only[go_sem]
  exact ⟨by decide,by omega,Int.le_refl _,by rw [List.take_length]⟩
theorem cutPrefix_fn (s:List UInt8) (hl:s.length<=1048576):Fn Tryz.prog 147 [⟨.str,bs s⟩,⟨.str,bs [45]⟩] false [⟨.str,bs (if s.take 1=[45] then s.drop 1 else s)⟩,⟨.bool,bdec (sgP s)⟩]:=by
 refine fe Tryz.func147 Tryz.ntmps147 Tryz.results147 fun hwf=>?_
 try simp (maxSteps:=9^9) only[go_sem]
 repeat refine AI ?_
 refine cw (cutPrefixL_fn s hl) ?_
 try simp (maxSteps:=9^9) only[go_sem]
def dgP (s:List UInt8):List UInt8:=if s.take 1=[45] then s.drop 1 else s
def bigP (s:List UInt8):Prop:=∃ a,pN (dgP s)=some a/\¬ (sgP s/\a=[])
open Classical in
noncomputable def pB (s:List UInt8):Option DB:=if bigP s then some (bdec (sgP s),(pN (dgP s)).getD []) else none
theorem dgP_len (s:List UInt8):(dgP s).length<=s.length:=by
 unfold dgP; split
 ·rw [List.length_drop]; omega
 ·exact Nat.le_refl _
theorem cutPrefix_at (s:List UInt8) (hl:s.length<=1048576):Fn Tryz.prog 147 [⟨.str,bs s⟩,⟨.str,bs [45]⟩] false [⟨.str,bs (dgP s)⟩,⟨.bool,bdec (sgP s)⟩]:=cutPrefix_fn s hl
theorem parseNat_none {s:List UInt8} (hl:s.length<=1048576) (h:pN s=none):FnT Tryz.prog 122 [⟨.str,bs s⟩] [⟨tInts,[]⟩,⟨.bool,false⟩]:=by
 have:=parseNat_fn s hl
 rw [h] at this
 exact this
theorem parseNat_some {s:List UInt8} {a:List Int} (hl:s.length<=1048576) (h:pN s=some a):FnT Tryz.prog 122 [⟨.str,bs s⟩] [⟨tInts,a⟩,⟨.bool,true⟩]:=by
 have:=parseNat_fn s hl
 rw [h] at this
 exact this
theorem pB_ok {s:List UInt8} {a:List Int} (hp:pN (dgP s)=some a):okB (bdec (sgP s),a)=true ↔ ¬ (sgP s/\a=[]):=by
 rw [okB_iff]
 unfold okBP
 constructor
 ·intro h ⟨h1,h2⟩
  exact h.2 ⟨bdec_t h1,by rw [h2]; rfl⟩
 ·intro h
  refine ⟨(pN_ok hp).1,fun ⟨h1,h2⟩=>h ⟨?_,List.eq_nil_of_length_eq_zero h2⟩⟩
  by_cases hs:sgP s
  ·exact hs
  ·have h1':bdec (sgP s)=true:=h1
   rw [bdec_f hs] at h1'; cases h1'
theorem parseBig_fn (s:List UInt8) (hl:s.length<=1048576):FnT Tryz.prog 121 [⟨.str,bs s⟩] [⟨tBig,(pB s).getD (false,[])⟩,⟨.bool,(pB s).isSome⟩]:=by
 have hdl:=dgP_len s
 cases hp:pN (dgP s) with
 | none =>
  have e:pB s=none:=if_neg fun ⟨a,h,_⟩=>by rw [hp] at h; cases h
  rw [e]
  refine fnT_enter tabOK mixes Tryz.func121 rfl rfl _ Tryz.ntmps121 _ Tryz.results121 (by simp) fun hwf=>?_
  try simp (maxSteps:=9^9) only[go_sem]
  repeat refine AI ?_
  refine cw (cutPrefix_at s hl) ?_
  try simp (maxSteps:=9^9) only[go_sem]
  repeat refine AI ?_
  refine CallW.to (parseNat_none (by omega) hp) ?_
  try simp (maxSteps:=9^9) only[go_sem]
  rfl
 | some a =>
  by_cases hz:sgP s/\a=[]
  ·have e:pB s=none:=if_neg fun ⟨b,h,h2⟩=>by rw [hp] at h; injection h with h; subst h; exact h2 hz
   have ho:okB (bdec (sgP s),a)=false:=by
    cases h:okB (bdec (sgP s),a) with
    | false=>rfl
    | true=>exact absurd hz ((pB_ok hp).1 h)
   rw [e]
   refine fnT_enter tabOK mixes Tryz.func121 rfl rfl _ Tryz.ntmps121 _ Tryz.results121 (by simp) fun hwf=>?_
   try simp (maxSteps:=9^9) only[go_sem]
   repeat refine AI ?_
   refine cw (cutPrefix_at s hl) ?_
   try simp (maxSteps:=9^9) only[go_sem]
   repeat refine AI ?_
   refine CallW.to (parseNat_some (by omega) hp) ?_
   try simp (maxSteps:=9^9) only[go_sem]
   repeat refine AI ?_
   refine CallW.mx (implBigIntOk_fn (bdec (sgP s),a)) ?_
   try simp (maxSteps:=9^9) only[go_sem]
   rw [ho]
   try simp (maxSteps:=9^9) only[go_sem]
   rfl
  ·have e:pB s=some (bdec (sgP s),a):=(if_pos ⟨a,hp,hz⟩).trans (by rw [hp]; rfl)
   have ho:okB (bdec (sgP s),a)=true:=(pB_ok hp).2 hz
   rw [e]
   refine fnT_enter tabOK mixes Tryz.func121 rfl rfl _ Tryz.ntmps121 _ Tryz.results121 (by simp) fun hwf=>?_
   try simp (maxSteps:=9^9) only[go_sem]
   repeat refine AI ?_
   refine cw (cutPrefix_at s hl) ?_
   try simp (maxSteps:=9^9) only[go_sem]
   repeat refine AI ?_
   refine CallW.to (parseNat_some (by omega) hp) ?_
   try simp (maxSteps:=9^9) only[go_sem]
   repeat refine AI ?_
   refine CallW.mx (implBigIntOk_fn (bdec (sgP s),a)) ?_
   try simp (maxSteps:=9^9) only[go_sem]
   rw [ho]
   try simp (maxSteps:=9^9) only[go_sem]
end Go.Proofs.YtaeckjmkjhffnaaGreatDoor.DW

namespace Go.Proofs.YtaeckjmkjhffnaaGreatDoor
open Go.RowKit Go.ChangeShapes Go.WideShapes Go.Deep
section
variable {H:Type} (enc:TypeId × Value->H) (P:Program) (w:World)
def Opens {α:Type} (t:TypeId) (A:Rp α):Prop:=∀ (fuel:Nat) (cs:List Value) (x:DataW H × List MemPlace),DataW.trod enc P w 0 (fun _=>true) true fuel t cs=some x->∃ a,Has A w cs a
variable {enc P w}
theorem Opens.int {t:TypeId} (ht:P.underlying t=some (.int .i64)):Opens enc P w t Rp.int:=fun fuel cs x h=>by
 obtain ⟨n,rfl,_,wn⟩:=DataW.trod_int ht h
 have:I64 n:=by simpa [Lit.wf,IntKind.min,IntKind.max,IntKind.signed,IntKind.bits,I64] using wn
 exact ⟨n,[],rfl,rfl,this⟩
theorem Opens.bool {t:TypeId} (ht:P.underlying t=some .bool):Opens enc P w t Rp.bool:=fun fuel cs x h=>by
 obtain ⟨n,rfl,_⟩:=DataW.trod_bool ht h
 exact ⟨n,[],rfl,rfl⟩
theorem Opens.prod {α β:Type} {t:TypeId} {A:Rp α} {B:Rp β} {f0 f1:Field} (ht:P.underlying t=some (.struct #[f0,f1])) (o0:f0.offset=0) (o1:f1.offset=A.size)
  (s0:P.cellsOf f0.type=A.size) (s1:P.cellsOf f1.type=B.size) (s:P.cellsOf t=A.size+B.size) (h0:Opens enc P w f0.type A) (h1:Opens enc P w f1.type B):Opens enc P w t (Rp.prod A B):=fun fuel cs x h=>by
 obtain ⟨xs,n,_,_,hl,hxl,hf⟩:=DataW.trod_struct ht h
 have e0:=hf 0 f0 rfl
 have e1:=hf 1 f1 rfl
 have hxl':xs.length=2:=hxl
 rw [o0,s0,List.getElem?_eq_getElem (by omega)] at e0
 rw [o1,s1,List.getElem?_eq_getElem (by omega)] at e1
 obtain ⟨a,fa,ra⟩:=h0 _ _ _ e0
 obtain ⟨b,fb,rb⟩:=h1 _ _ _ e1
 refine ⟨(a,b),fa++fb,_,_,fa,fb,?_,rfl,ra,rb⟩
 rw [List.drop_zero,List.take_of_length_le (show (cs.drop A.size).length<=B.size by simp; omega),List.take_append_drop]
theorem Opens.slice {α:Type} {t e:TypeId} {A:Rp α} {p:0 < A.size} (ht:P.underlying t=some (.slice e)) (hs:P.cellsOf e=A.size) (h0:Opens enc P w e A):Opens enc P w t (Rp.slice A p):=fun fuel cs x h=>by
 rcases open_slice ht h with ⟨rfl,_⟩|⟨a,len,cap,m,n,D,Pl,rfl,hb,hl,hm,hmm,hx,hi⟩
 ·exact ⟨[],[],none,0,rfl,Nat.le_refl _,Nat.zero_le _,.inl ⟨rfl,rfl⟩⟩
 ·have hcap:m=cap:=by simpa using hmm
  clear hmm hx
  rw [hs] at hi
  by_cases h0l:len=0
  ·subst h0l
   exact ⟨[],[],some a,cap,rfl,Nat.zero_le _,hm,.inl ⟨rfl,rfl⟩⟩
  have hel:∀ i,i < len->∃ y:α × List Nat × List Value,A.rep w y.2.2 y.1 y.2.1/\∀ j v,y.2.2[j]? = some v->w.cell? ((a.add (i * A.size)).add j)=some v:=by
   intro i hil
   obtain ⟨cs',hc,htr⟩:=hi i (by omega)
   obtain ⟨x,f,r⟩:=h0 _ _ _ htr
   obtain ⟨_,hcl,hat⟩:=World.cells?_some hc
   refine ⟨(x,f,cs'),r,fun j v hv=>?_⟩
   have hj:j < cs'.length:=(List.getElem?_eq_some_iff.1 hv).1
   rw [hat j (by omega)]
   exact hv
  have hex:∃ ys:List (α × List Nat × List Value),ys.length=len/\∀ i y,ys[i]? = some y->A.rep w y.2.2 y.1 y.2.1/\∀ j v,y.2.2[j]? = some v->w.cell? ((a.add (i * A.size)).add j)=some v:=by
   have:∀ k,k<=len->∃ ys:List (α × List Nat × List Value),ys.length=k/\∀ i y,ys[i]? = some y->A.rep w y.2.2 y.1 y.2.1/\∀ j v,y.2.2[j]? = some v->w.cell? ((a.add (i * A.size)).add j)=some v:=by
    intro k
    induction k with
    | zero=>intro _; exact ⟨[],rfl,fun i y h=>by simp at h⟩
    | succ k ih =>
     intro hk
     obtain ⟨ys,hyl,hys⟩:=ih (by omega)
     obtain ⟨y,hy⟩:=hel k (by omega)
     refine ⟨ys++[y],by simp [hyl],fun i z hz=>?_⟩
     rcases Nat.lt_or_ge i ys.length with hi|hi
     ·rw [List.getElem?_append_left hi] at hz
      exact hys i z hz
     ·have hik:i=k:=by
       have:=(List.getElem?_eq_some_iff.1 hz).1
       simp at this
       omega
      subst hik
      rw [<-hyl] at hz ⊢
      simp at hz
      subst hz
      exact hyl ▸ hy
   exact this len (Nat.le_refl _)
  obtain ⟨ys,hyl,hys⟩:=hex
  have hspot:a.spot=none:=by
   have hy0:ys[0]? = some (ys[0]'(by omega)):=List.getElem?_eq_getElem (by omega)
   obtain ⟨r,hc⟩:=hys 0 _ hy0
   have hcl:=A.len r
   have h0c:=hc 0 _ (List.getElem?_eq_getElem (by omega))
   simp [Addr.add] at h0c
   exact World.cell?_spot h0c
  obtain ⟨b,off,spot⟩:=a
  simp at hspot
  subst hspot
  refine ⟨ys.map (·.1),b :: (ys.map (·.2.1)).flatten,some ⟨b,off,none⟩,cap,by simp [hyl],by simpa [hyl] using hl,hm,.inr ⟨b,off,ys.map (·.2.1),?_,rfl,rfl,by simp,fun i x hx=>?_⟩⟩
  ·intro hn
   have:ys=[]:=by simpa using hn
   subst this
   simp at hyl
   omega
  ·rw [List.getElem?_map] at hx
   obtain ⟨y,hy,rfl⟩:=Option.map_eq_some_iff.1 hx
   obtain ⟨r,hc⟩:=hys i y hy
   refine ⟨y.2.1,y.2.2,by rw [List.getElem?_map,hy]; rfl,r,fun j v hv=>?_⟩
   have h:=hc j v hv
   rw [Go.Deep.add_add] at h
   have hadd:∀ k,(⟨b,off,none⟩:Addr).add k=⟨b,off+k,none⟩:=fun k=>by
    unfold Addr.add
    by_cases hk:k=0
    ·subst hk; rfl
    ·rw [if_neg hk]
   rw [hadd] at h
   rw [Nat.add_assoc]
   exact h
end
section
variable {H:Type} {enc:TypeId × Value->H} {w:World}
theorem Opens.u8 {P:Program} {t:TypeId} (ht:P.underlying t=some (.int .u8)):Opens enc P w t DW.RpU8:=fun fuel cs x h=>by
 obtain ⟨n,rfl,_,wn⟩:=DataW.trod_int ht h
 have:0<=n/\n<=255:=by simpa [Lit.wf,IntKind.min,IntKind.max,IntKind.signed,IntKind.bits] using wn
 exact ⟨n,[],rfl,rfl,this.1,this.2⟩
theorem oU8S:Opens enc Tryz.prog w 66 (Rp.slice DW.RpU8 Nat.one_pos):=Opens.slice Tryz.underlying66 (by kernel_rfl) (Opens.u8 Tryz.underlying5)
end
end Go.Proofs.YtaeckjmkjhffnaaGreatDoor

namespace Go.Proofs.YtaeckjmkjhffnaaGreatDoor.DW
open Go.RowKit
theorem capR_none {q:Rat} (h:¬ small q):oD (capR q)=((false,[]),[]):=by rw [capR_n h]; rfl
theorem sgn_abs (s:Bool) (a:Nat):(sgn s a).natAbs=a:=by unfold sgn; split<;>omega
theorem sgn_neg (s:Bool) (a:Nat):decide (sgn s a < 0)=(s && decide (0 < a)):=by
 unfold sgn
 cases s
 ·simp
 ·simp<;>omega
set_option maxHeartbeats 1000000 in
theorem l04Low_fn (s:Bool) (a b:Nat) (hb:b ≠ 0) (ha:nl a<=60) (hbl:nl b<=60):Fn Tryz.prog 173 [⟨.bool,s⟩,⟨tInts,natL a⟩,⟨tInts,natL b⟩] true [⟨tRat,oD (capR (_root_.mkRat (sgn s a) b))⟩]:=by
 obtain ⟨m1,m2,m3⟩:=mk_abs (z:=sgn s a) hb
 rw [sgn_abs] at m1 m2
 rw [sgn_neg] at m3
 generalize hq:_root_.mkRat (sgn s a) b=q at *
 have hg0:0 < Nat.gcd a b:=Nat.gcd_pos_of_pos_right _ (Nat.pos_of_ne_zero hb)
 have hl1:=nl_mono (Nat.div_le_self a (Nat.gcd a b))
 have hl2:=nl_mono (Nat.div_le_self b (Nat.gcd a b))
 have hl3:=nl_mono (Nat.gcd_le_right a (Nat.pos_of_ne_zero hb))
 rw [<-m1] at hl1
 rw [<-m2] at hl2
 have hb0:¬ (nl b:Int)=0:=fun h=>hb (nl_eq_zero.1 (by omega))
 have ht1:=l02Trim_fn (natL a)
 rw [trimL_natL] at ht1
 have ht2:=l02Trim_fn (natL b)
 rw [trimL_natL] at ht2
 have hqs:sgn s q.num.natAbs=q.num:=by
  have h1:(0 < a)->0 < q.num.natAbs:=fun h=>by
   rw [m1]; exact Nat.div_pos (Nat.le_of_dvd h (Nat.gcd_dvd_left ..)) hg0
  have h2:a=0->q.num.natAbs=0:=fun h=>by rw [m1,h,Nat.zero_div]
  unfold sgn
  cases s
  ·have:¬ q.num < 0:=by simpa using m3
   simp only [Bool.false_eq_true,if_false]; omega
  ·simp only [if_true]
   rcases Nat.eq_zero_or_pos a with h|h
   ·have:=h2 h; omega
   ·have:=h1 h
    have:q.num < 0:=by simpa [h] using m3
    omega
 have hpath:(decide (b=1)=true/\a=q.num.natAbs/\b=q.den)\/(decide (b=1)=false/\decide (Nat.gcd a b=1)=true/\a=q.num.natAbs/\b=q.den)\/(decide (b=1)=false/\decide (Nat.gcd a b=1)=false):=by
  by_cases h1:b=1
  ·refine .inl ⟨decide_eq_true h1,?_,?_⟩
   ·rw [m1,h1,Nat.gcd_one_right,Nat.div_one]
   ·rw [m2,h1,Nat.gcd_one_right,Nat.div_one]
  ·by_cases h2:Nat.gcd a b=1
   ·exact .inr (.inl ⟨decide_eq_false h1,decide_eq_true h2,by rw [m1,h2,Nat.div_one],by rw [m2,h2,Nat.div_one]⟩)
   ·exact .inr (.inr ⟨decide_eq_false h1,decide_eq_false h2⟩)
 have hob:small q->Fn Tryz.prog 174 [⟨.bool,s⟩,⟨tInts,natL q.num.natAbs⟩] true [⟨tBig,bigD q.num⟩]:=fun hs=>l03Make_to hqs (by have:=hs.1; omega)
 have hend:small q\/(24:Int) < nl q.num.natAbs\/(¬ (24:Int) < nl q.num.natAbs/\(24:Int) < nl q.den):=by unfold small; omega
 rcases hpath with ⟨hd,e1,e2⟩|⟨hd,hd2,e1,e2⟩|⟨hd,hd2⟩
 ·rcases hend with hs|hA|⟨hA,hB⟩
  ·rw [capR_s hs]
   have hA:¬ (24:Int) < nl q.num.natAbs:=by have:=hs.1; omega
   have hB:¬ (24:Int) < nl q.den:=by have:=hs.2; omega
   have hob:=hob hs
   rw [<-e1] at hA hob; rw [<-e2] at hB
   refine fe Tryz.func173 Tryz.ntmps173 Tryz.results173 fun hwf=>?_
   try simp (maxSteps:=9^9) only[go_sem]
   repeat refine AI ?_
   refine cw ht1 ?_
   try simp (maxSteps:=9^9) only[go_sem]
   repeat refine AI ?_
   refine cw ht2 ?_
   try simp (maxSteps:=9^9) only[go_sem]
   try simp (maxSteps:=9^9) only[go_sem,hb0]
   repeat refine AI ?_
   refine cw (l04One_fn b) ?_
   try simp (maxSteps:=9^9) only[go_sem]
   try simp (maxSteps:=9^9) only[go_sem,hd,hA,hB]
   repeat refine AI ?_
   refine cw hob ?_
   try simp (maxSteps:=9^9) only[go_sem]
   repeat refine AI ?_
   try simp (maxSteps:=9^9) only[go_sem,e2]
   try omega
  ·rw [capR_none (by unfold small; omega)]
   rw [<-e1] at hA
   refine fe Tryz.func173 Tryz.ntmps173 Tryz.results173 fun hwf=>?_
   try simp (maxSteps:=9^9) only[go_sem]
   repeat refine AI ?_
   refine cw ht1 ?_
   try simp (maxSteps:=9^9) only[go_sem]
   repeat refine AI ?_
   refine cw ht2 ?_
   try simp (maxSteps:=9^9) only[go_sem]
   try simp (maxSteps:=9^9) only[go_sem,hb0]
   repeat refine AI ?_
   refine cw (l04One_fn b) ?_
   try simp (maxSteps:=9^9) only[go_sem]
   try simp (maxSteps:=9^9) only[go_sem,hd,hA]
  ·rw [capR_none (by unfold small; omega)]
   rw [<-e1] at hA; rw [<-e2] at hB
   refine fe Tryz.func173 Tryz.ntmps173 Tryz.results173 fun hwf=>?_
   try simp (maxSteps:=9^9) only[go_sem]
   repeat refine AI ?_
   refine cw ht1 ?_
   try simp (maxSteps:=9^9) only[go_sem]
   repeat refine AI ?_
   refine cw ht2 ?_
   try simp (maxSteps:=9^9) only[go_sem]
   try simp (maxSteps:=9^9) only[go_sem,hb0]
   repeat refine AI ?_
   refine cw (l04One_fn b) ?_
   try simp (maxSteps:=9^9) only[go_sem]
   try simp (maxSteps:=9^9) only[go_sem,hd,hA,hB]
 ·rcases hend with hs|hA|⟨hA,hB⟩
  ·rw [capR_s hs]
   have hA:¬ (24:Int) < nl q.num.natAbs:=by have:=hs.1; omega
   have hB:¬ (24:Int) < nl q.den:=by have:=hs.2; omega
   have hob:=hob hs
   rw [<-e1] at hA hob; rw [<-e2] at hB
   refine fe Tryz.func173 Tryz.ntmps173 Tryz.results173 fun hwf=>?_
   try simp (maxSteps:=9^9) only[go_sem]
   repeat refine AI ?_
   refine cw ht1 ?_
   try simp (maxSteps:=9^9) only[go_sem]
   repeat refine AI ?_
   refine cw ht2 ?_
   try simp (maxSteps:=9^9) only[go_sem]
   try simp (maxSteps:=9^9) only[go_sem,hb0]
   repeat refine AI ?_
   refine cw (l04One_fn b) ?_
   try simp (maxSteps:=9^9) only[go_sem]
   try simp (maxSteps:=9^9) only[go_sem,hd]
   repeat refine AI ?_
   refine cw (l02Gcd_fn a b (by omega) (by omega)) ?_
   try simp (maxSteps:=9^9) only[go_sem]
   repeat refine AI ?_
   refine cw (l04One_fn (Nat.gcd a b)) ?_
   try simp (maxSteps:=9^9) only[go_sem]
   try simp (maxSteps:=9^9) only[go_sem,hd2,hA,hB]
   repeat refine AI ?_
   refine cw hob ?_
   try simp (maxSteps:=9^9) only[go_sem]
   repeat refine AI ?_
   try simp (maxSteps:=9^9) only[go_sem,e2]
   try omega
  ·rw [capR_none (by unfold small; omega)]
   rw [<-e1] at hA
   refine fe Tryz.func173 Tryz.ntmps173 Tryz.results173 fun hwf=>?_
   try simp (maxSteps:=9^9) only[go_sem]
   repeat refine AI ?_
   refine cw ht1 ?_
   try simp (maxSteps:=9^9) only[go_sem]
   repeat refine AI ?_
   refine cw ht2 ?_
   try simp (maxSteps:=9^9) only[go_sem]
   try simp (maxSteps:=9^9) only[go_sem,hb0]
   repeat refine AI ?_
   refine cw (l04One_fn b) ?_
   try simp (maxSteps:=9^9) only[go_sem]
   try simp (maxSteps:=9^9) only[go_sem,hd]
   repeat refine AI ?_
   refine cw (l02Gcd_fn a b (by omega) (by omega)) ?_
   try simp (maxSteps:=9^9) only[go_sem]
   repeat refine AI ?_
   refine cw (l04One_fn (Nat.gcd a b)) ?_
   try simp (maxSteps:=9^9) only[go_sem]
   try simp (maxSteps:=9^9) only[go_sem,hd2,hA]
  ·rw [capR_none (by unfold small; omega)]
   rw [<-e1] at hA; rw [<-e2] at hB
   refine fe Tryz.func173 Tryz.ntmps173 Tryz.results173 fun hwf=>?_
   try simp (maxSteps:=9^9) only[go_sem]
   repeat refine AI ?_
   refine cw ht1 ?_
   try simp (maxSteps:=9^9) only[go_sem]
   repeat refine AI ?_
   refine cw ht2 ?_
   try simp (maxSteps:=9^9) only[go_sem]
   try simp (maxSteps:=9^9) only[go_sem,hb0]
   repeat refine AI ?_
   refine cw (l04One_fn b) ?_
   try simp (maxSteps:=9^9) only[go_sem]
   try simp (maxSteps:=9^9) only[go_sem,hd]
   repeat refine AI ?_
   refine cw (l02Gcd_fn a b (by omega) (by omega)) ?_
   try simp (maxSteps:=9^9) only[go_sem]
   repeat refine AI ?_
   refine cw (l04One_fn (Nat.gcd a b)) ?_
   try simp (maxSteps:=9^9) only[go_sem]
   try simp (maxSteps:=9^9) only[go_sem,hd2,hA,hB]
 ·rcases hend with hs|hA|⟨hA,hB⟩
  ·rw [capR_s hs]
   have hA:¬ (24:Int) < nl q.num.natAbs:=by have:=hs.1; omega
   have hB:¬ (24:Int) < nl q.den:=by have:=hs.2; omega
   have hob:=hob hs
   refine fe Tryz.func173 Tryz.ntmps173 Tryz.results173 fun hwf=>?_
   try simp (maxSteps:=9^9) only[go_sem]
   repeat refine AI ?_
   refine cw ht1 ?_
   try simp (maxSteps:=9^9) only[go_sem]
   repeat refine AI ?_
   refine cw ht2 ?_
   try simp (maxSteps:=9^9) only[go_sem]
   try simp (maxSteps:=9^9) only[go_sem,hb0]
   repeat refine AI ?_
   refine cw (l04One_fn b) ?_
   try simp (maxSteps:=9^9) only[go_sem]
   try simp (maxSteps:=9^9) only[go_sem,hd]
   repeat refine AI ?_
   refine cw (l02Gcd_fn a b (by omega) (by omega)) ?_
   try simp (maxSteps:=9^9) only[go_sem]
   repeat refine AI ?_
   refine cw (l04One_fn (Nat.gcd a b)) ?_
   try simp (maxSteps:=9^9) only[go_sem]
   try simp (maxSteps:=9^9) only[go_sem,hd2]
   have c1:=l02Div_fn a (Nat.gcd a b) hg0 (by omega) (by omega)
   rw [<-m1] at c1
   repeat refine AI ?_
   refine cw c1 ?_
   try simp (maxSteps:=9^9) only[go_sem]
   have c2:=l02Div_fn b (Nat.gcd a b) hg0 (by omega) (by omega)
   rw [<-m2] at c2
   repeat refine AI ?_
   refine cw c2 ?_
   try simp (maxSteps:=9^9) only[go_sem]
   try simp (maxSteps:=9^9) only[go_sem,hA,hB]
   repeat refine AI ?_
   refine cw hob ?_
   try simp (maxSteps:=9^9) only[go_sem]
   repeat refine AI ?_
   try simp (maxSteps:=9^9) only[go_sem]
   try omega
  ·rw [capR_none (by unfold small; omega)]
   refine fe Tryz.func173 Tryz.ntmps173 Tryz.results173 fun hwf=>?_
   try simp (maxSteps:=9^9) only[go_sem]
   repeat refine AI ?_
   refine cw ht1 ?_
   try simp (maxSteps:=9^9) only[go_sem]
   repeat refine AI ?_
   refine cw ht2 ?_
   try simp (maxSteps:=9^9) only[go_sem]
   try simp (maxSteps:=9^9) only[go_sem,hb0]
   repeat refine AI ?_
   refine cw (l04One_fn b) ?_
   try simp (maxSteps:=9^9) only[go_sem]
   try simp (maxSteps:=9^9) only[go_sem,hd]
   repeat refine AI ?_
   refine cw (l02Gcd_fn a b (by omega) (by omega)) ?_
   try simp (maxSteps:=9^9) only[go_sem]
   repeat refine AI ?_
   refine cw (l04One_fn (Nat.gcd a b)) ?_
   try simp (maxSteps:=9^9) only[go_sem]
   try simp (maxSteps:=9^9) only[go_sem,hd2]
   have c1:=l02Div_fn a (Nat.gcd a b) hg0 (by omega) (by omega)
   rw [<-m1] at c1
   repeat refine AI ?_
   refine cw c1 ?_
   try simp (maxSteps:=9^9) only[go_sem]
   have c2:=l02Div_fn b (Nat.gcd a b) hg0 (by omega) (by omega)
   rw [<-m2] at c2
   repeat refine AI ?_
   refine cw c2 ?_
   try simp (maxSteps:=9^9) only[go_sem]
   try simp (maxSteps:=9^9) only[go_sem,hA]
  ·rw [capR_none (by unfold small; omega)]
   refine fe Tryz.func173 Tryz.ntmps173 Tryz.results173 fun hwf=>?_
   try simp (maxSteps:=9^9) only[go_sem]
   repeat refine AI ?_
   refine cw ht1 ?_
   try simp (maxSteps:=9^9) only[go_sem]
   repeat refine AI ?_
   refine cw ht2 ?_
   try simp (maxSteps:=9^9) only[go_sem]
   try simp (maxSteps:=9^9) only[go_sem,hb0]
   repeat refine AI ?_
   refine cw (l04One_fn b) ?_
   try simp (maxSteps:=9^9) only[go_sem]
   try simp (maxSteps:=9^9) only[go_sem,hd]
   repeat refine AI ?_
   refine cw (l02Gcd_fn a b (by omega) (by omega)) ?_
   try simp (maxSteps:=9^9) only[go_sem]
   repeat refine AI ?_
   refine cw (l04One_fn (Nat.gcd a b)) ?_
   try simp (maxSteps:=9^9) only[go_sem]
   try simp (maxSteps:=9^9) only[go_sem,hd2]
   have c1:=l02Div_fn a (Nat.gcd a b) hg0 (by omega) (by omega)
   rw [<-m1] at c1
   repeat refine AI ?_
   refine cw c1 ?_
   try simp (maxSteps:=9^9) only[go_sem]
   have c2:=l02Div_fn b (Nat.gcd a b) hg0 (by omega) (by omega)
   rw [<-m2] at c2
   repeat refine AI ?_
   refine cw c2 ?_
   try simp (maxSteps:=9^9) only[go_sem]
   try simp (maxSteps:=9^9) only[go_sem,hA,hB]
attribute [go_sem] Option.isSome_none bigD_nat
theorem nl_mulZ (a:Int) (n:Nat):nl (a * (n:Int)).natAbs<=nl a.natAbs+nl n:=by
 rw [Int.natAbs_mul,Int.natAbs_natCast]; exact nl_mul _ _
theorem nl_addZ (a b:Int):nl (a+b).natAbs<=max (nl a.natAbs) (nl b.natAbs)+1:=Nat.le_trans (nl_mono (Int.natAbs_add_le a b)) (nl_add _ _)
theorem den_mul_ne (p q:Rat):p.den * q.den ≠ 0:=Nat.mul_ne_zero p.den_nz q.den_nz
theorem sgn_mulN (x:Int) (n:Nat):sgn (decide (x < 0)) (x.natAbs * n)=x * n:=by
 unfold sgn
 by_cases h:x < 0
 ·simp only [h,decide_true,if_true,Int.natCast_mul]
  rw [show (x.natAbs:Int)=-x by omega,Int.neg_mul,Int.neg_neg]
 ·simp only [h,decide_false,Bool.false_eq_true,if_false,Int.natCast_mul]
  rw [show (x.natAbs:Int)=x by omega]
theorem natL_1:natL 1=[1]:=natL_one (by decide) (by decide)
theorem l04Add_fn (p q:Rat) (hp:small p) (hq:small q):Fn Tryz.prog 151 [⟨tRat,ratD p⟩,⟨tRat,ratD q⟩] true [⟨tRat,oD (capR (p+q))⟩]:=by
 obtain ⟨p1,p2⟩:=hp
 obtain ⟨q1,q2⟩:=hq
 have b1:=nl_mulZ p.num q.den
 have b2:=nl_mulZ q.num p.den
 have b3:=nl_addZ (p.num * q.den) (q.num * p.den)
 have b4:=nl_mul p.den q.den
 have b5:=nl_mul p.num.natAbs q.den
 have b6:=nl_mul q.num.natAbs p.den
 have b7:=nl_addZ p.num q.num
 have hl:=l04Low_fn (decide (p.num * q.den+q.num * p.den < 0)) (p.num * q.den+q.num * p.den).natAbs (p.den * q.den) (den_mul_ne p q) (by omega) (by omega)
 rw [sgn_bigD,<-add_mk] at hl
 by_cases h1:p.den=1
 ·by_cases h2:q.den=1
  ·have hl1:=l04Low_fn (decide (p.num+q.num < 0)) (p.num+q.num).natAbs 1 (by decide) (by omega) (by have:=nl_small (n:=1) (by decide); omega)
   have e:_root_.mkRat (p.num+q.num) 1=p+q:=by rw [add_mk,h1,h2]; simp
   rw [sgn_bigD,natL_1,e] at hl1
   have d1:decide (p.den=1)=true:=decide_eq_true h1
   have d2:decide (q.den=1)=true:=decide_eq_true h2
   refine fe Tryz.func151 Tryz.ntmps151 Tryz.results151 fun hwf=>?_
   try simp (maxSteps:=9^9) only[go_sem]
   repeat refine AI ?_
   refine cw (l04One_fn p.den) ?_
   try simp (maxSteps:=9^9) only[go_sem]
   try simp (maxSteps:=9^9) only[go_sem,d1]
   repeat refine AI ?_
   refine cw (l04One_fn q.den) ?_
   try simp (maxSteps:=9^9) only[go_sem]
   try simp (maxSteps:=9^9) only[go_sem,d2]
   repeat refine AI ?_
   refine cw (l03Add_fn p.num q.num (by omega) (by omega)) ?_
   try simp (maxSteps:=9^9) only[go_sem]
   repeat refine AI ?_
   refine cw hl1 ?_
   try simp (maxSteps:=9^9) only[go_sem]
   all_goals repeat refine AI ?_
   all_goals first|kernel_rfl|omega|rfl
  ·have d1:decide (p.den=1)=true:=decide_eq_true h1
   have d2:decide (q.den=1)=false:=decide_eq_false h2
   refine fe Tryz.func151 Tryz.ntmps151 Tryz.results151 fun hwf=>?_
   try simp (maxSteps:=9^9) only[go_sem]
   repeat refine AI ?_
   refine cw (l04One_fn p.den) ?_
   try simp (maxSteps:=9^9) only[go_sem]
   try simp (maxSteps:=9^9) only[go_sem,d1]
   repeat refine AI ?_
   refine cw (l04One_fn q.den) ?_
   try simp (maxSteps:=9^9) only[go_sem]
   try simp (maxSteps:=9^9) only[go_sem,d2]
   repeat refine AI ?_
   refine cw (l02Mul_fn p.num.natAbs q.den (by omega) (by omega)) ?_
   try simp (maxSteps:=9^9) only[go_sem]
   repeat refine AI ?_
   refine cw (l03Make_to (sgn_mulN p.num q.den) (by omega)) ?_
   try simp (maxSteps:=9^9) only[go_sem]
   repeat refine AI ?_
   refine cw (l02Mul_fn q.num.natAbs p.den (by omega) (by omega)) ?_
   try simp (maxSteps:=9^9) only[go_sem]
   repeat refine AI ?_
   refine cw (l03Make_to (sgn_mulN q.num p.den) (by omega)) ?_
   try simp (maxSteps:=9^9) only[go_sem]
   repeat refine AI ?_
   refine cw (l03Add_fn (p.num * q.den) (q.num * p.den) (by omega) (by omega)) ?_
   try simp (maxSteps:=9^9) only[go_sem]
   repeat refine AI ?_
   refine cw (l02Mul_fn p.den q.den (by omega) (by omega)) ?_
   try simp (maxSteps:=9^9) only[go_sem]
   repeat refine AI ?_
   refine cw hl ?_
   try simp (maxSteps:=9^9) only[go_sem]
   all_goals repeat refine AI ?_
   all_goals first|kernel_rfl|omega|rfl
 ·have d1:decide (p.den=1)=false:=decide_eq_false h1
  refine fe Tryz.func151 Tryz.ntmps151 Tryz.results151 fun hwf=>?_
  try simp (maxSteps:=9^9) only[go_sem]
  repeat refine AI ?_
  refine cw (l04One_fn p.den) ?_
  try simp (maxSteps:=9^9) only[go_sem]
  try simp (maxSteps:=9^9) only[go_sem,d1]
  repeat refine AI ?_
  refine cw (l02Mul_fn p.num.natAbs q.den (by omega) (by omega)) ?_
  try simp (maxSteps:=9^9) only[go_sem]
  repeat refine AI ?_
  refine cw (l03Make_to (sgn_mulN p.num q.den) (by omega)) ?_
  try simp (maxSteps:=9^9) only[go_sem]
  repeat refine AI ?_
  refine cw (l02Mul_fn q.num.natAbs p.den (by omega) (by omega)) ?_
  try simp (maxSteps:=9^9) only[go_sem]
  repeat refine AI ?_
  refine cw (l03Make_to (sgn_mulN q.num p.den) (by omega)) ?_
  try simp (maxSteps:=9^9) only[go_sem]
  repeat refine AI ?_
  refine cw (l03Add_fn (p.num * q.den) (q.num * p.den) (by omega) (by omega)) ?_
  try simp (maxSteps:=9^9) only[go_sem]
  repeat refine AI ?_
  refine cw (l02Mul_fn p.den q.den (by omega) (by omega)) ?_
  try simp (maxSteps:=9^9) only[go_sem]
  repeat refine AI ?_
  refine cw hl ?_
  try simp (maxSteps:=9^9) only[go_sem]
  all_goals repeat refine AI ?_
  all_goals first|kernel_rfl|omega|rfl
end Go.Proofs.YtaeckjmkjhffnaaGreatDoor.DW

namespace Go.Proofs.YtaeckjmkjhffnaaGreatDoor.DW
open Go.RowKit
attribute [go_sem] Prod.eta
abbrev DP:Type:=DR × DR
noncomputable def okPt (p:DP):Bool:=okR p.1 && okR p.2
theorem implIsValidPoint_fn (p:DP):Fn Tryz.prog 83 [⟨tPoint,p⟩] false [⟨.bool,okPt p⟩]:=by
 cases h:okR p.1
 ·refine fe Tryz.func83 Tryz.ntmps83 Tryz.results83 fun hwf=>?_
  try simp (maxSteps:=9^9) only[go_sem]
  repeat refine AI ?_
  refine cw (implRatOk_fn p.1) ?_
  try simp (maxSteps:=9^9) only[go_sem]
  try simp (maxSteps:=9^9) only[go_sem,h]
  repeat refine AI ?_
  simp [okPt,h]
 ·refine fe Tryz.func83 Tryz.ntmps83 Tryz.results83 fun hwf=>?_
  try simp (maxSteps:=9^9) only[go_sem]
  repeat refine AI ?_
  refine cw (implRatOk_fn p.1) ?_
  try simp (maxSteps:=9^9) only[go_sem]
  try simp (maxSteps:=9^9) only[go_sem,h]
  repeat refine AI ?_
  refine cw (implRatOk_fn p.2) ?_
  try simp (maxSteps:=9^9) only[go_sem]
  repeat refine AI ?_
  simp [okPt,h]
theorem indexFunc_pt_fn (F:FuncId) (p:DP->Bool) (hF:∀ x:DP,Fn Tryz.prog F [⟨tPoint,x⟩] false [⟨.bool,p x⟩]) (l:List DP):Fn Tryz.prog 110 [⟨.slice tPoint,l⟩,⟨.cst (.fn F),()⟩] false [⟨.int,ixf (t:=tPoint) p l⟩]:=by
 refine fe Tryz.func110 Tryz.ntmps110 Tryz.results110 fun hwf=>?_
 have hl:l.length<=9223372036854775807:=(hwf ⟨.slice tPoint,l⟩ (by simp)).1
 try simp (maxSteps:=9^9) only[go_sem]
 refine LoopG.intro _ _ _ (fun i:Nat=>⟨[(0,.sl tPoint l),(1,.sc (.func (.func F) #[] #[])),(7,.sc (.int .i64 l.length)),(8,.sc (.int .i64 i))],[]⟩) (fun i=>∀ j < i,j < l.length->p (nth (t:=tPoint) l j)=false) (fun i=>l.length - i) 0 ?_ (fun j h=>by simp at h) ?_
 ·exact WK
 ·rintro i h2
  try simp (maxSteps:=9^9) only[go_sem]
  refine CondW_dec (fun h3=>?_) (fun h3=>?_)
  ·try simp (maxSteps:=9^9) only[go_sem]
   repeat refine AI ?_
   repeat refine AI ?_
   refine cw (hF (nth (t:=tPoint) l i)) ?_
   try simp (maxSteps:=9^9) only[go_sem]
   refine CondW_b (fun h4=>?_) (fun h4=>?_)
   ·try simp (maxSteps:=9^9) only[go_sem]
    exact (ixf_at (by omega) h4 (fun j hj=>h2 j hj (by omega))).symm
   ·try simp (maxSteps:=9^9) only[go_sem]
    repeat refine AI ?_
    refine LoopK.mk (i+1) ?_ (fun j hj hl=>?_) (by omega)
    ·exact WK
    ·by_cases hj2:j < i
     ·exact h2 j hj2 hl
     ·rw [show j=i by omega]; exact h4
  ·try simp (maxSteps:=9^9) only[go_sem]
   exact (ixf_none fun j hj=>h2 j (by omega) hj).symm
theorem containsFunc_pt_fn (F:FuncId) (p:DP->Bool) (hF:∀ x:DP,Fn Tryz.prog F [⟨tPoint,x⟩] false [⟨.bool,p x⟩]) (l:List DP):Fn Tryz.prog 81 [⟨.slice tPoint,l⟩,⟨.cst (.fn F),()⟩] false [⟨.bool,l.any p⟩]:=by
 refine fe Tryz.func81 Tryz.ntmps81 Tryz.results81 fun hwf=>?_
 try simp (maxSteps:=9^9) only[go_sem]
 repeat refine AI ?_
 refine cw (indexFunc_pt_fn F p hF l) ?_
 try simp (maxSteps:=9^9) only[go_sem]
 exact ixf_any
theorem arePointsC_fn (p:DP):Fn Tryz.prog 82 [⟨tPoint,p⟩] false [⟨.bool,!okPt p⟩]:=by
 refine fe Tryz.func82 Tryz.ntmps82 Tryz.results82 fun hwf=>?_
 try simp (maxSteps:=9^9) only[go_sem]
 repeat refine AI ?_
 refine cw (implIsValidPoint_fn p) ?_
 try simp (maxSteps:=9^9) only[go_sem]
theorem arePoints_fn (l:List DP):Fn Tryz.prog 49 [⟨.slice tPoint,l⟩] false [⟨.bool,!(l.any fun p=>!okPt p)⟩]:=by
 refine fe Tryz.func49 Tryz.ntmps49 Tryz.results49 fun hwf=>?_
 try simp (maxSteps:=9^9) only[go_sem]
 repeat refine AI ?_
 refine cw (containsFunc_pt_fn _ _ arePointsC_fn l) ?_
 try simp (maxSteps:=9^9) only[go_sem]
theorem arePoints1_fn (p:DP):Fn Tryz.prog 49 [⟨.slice tPoint,[p]⟩] false [⟨.bool,okPt p⟩]:=by
 have h:=arePoints_fn [p]
 have e:(!([p].any fun p=>!okPt p))=okPt p:=by simp
 rw [e] at h; exact h
abbrev DS:Type:=Int × DP
theorem isHeading_fn (n:Int):Fn Tryz.prog 48 [⟨.int,n⟩] false [⟨.bool,decide (0<=n/\n<=3)⟩]:=by
 refine fe Tryz.func48 Tryz.ntmps48 Tryz.results48 fun hwf=>?_
 try simp (maxSteps:=9^9) only[go_sem]
 repeat refine AI ?_
 refine cw (within_fn n 0 3) ?_
 try simp (maxSteps:=9^9) only[go_sem]
theorem okN_lbs {l:List Int} (h:okN l=true):lbs l/\l.length<=60:=by
 have h:=okN_iff.1 h
 exact ⟨fun i hi=>by rw [ni_lt hi]; exact h.1 _ (List.getElem_mem hi),h.2.1⟩
def fmtB (x:DB):List UInt8:=if x.1=true then 45 :: fmtN x.2 else fmtN x.2
def fmtQ (r:DR):List UInt8:=if val r.2=1 then fmtB r.1 else fmtB r.1++47 :: fmtN r.2
def fmtP (p:DP):List UInt8:=fmtQ p.1++44 :: fmtQ p.2
theorem fmtN_len {l:List Int} (h:lbs l):(fmtN l).length<=9 * l.length+1:=by
 unfold fmtN
 split
 ·simp
 ·have:=(pad9 h (i:=l.length - 1) (by omega)).1
  rw [List.length_append,fmtR_len h _ (by omega)]; omega
theorem okB_lbs {x:DB} (h:okB x=true):lbs x.2/\x.2.length<=60/\okN x.2=true:=by
 obtain ⟨z,rfl,h2⟩:=okBP_iff.1 (okB_iff.1 h)
 have:okN (natL z.natAbs)=true:=okN_iff.2 (okNP_iff.2 ⟨_,rfl,h2⟩)
 exact ⟨(okN_lbs this).1,(okN_lbs this).2,this⟩
theorem formatBig_fn (x:DB) (h:okB x=true):Fn Tryz.prog 113 [⟨tBig,x⟩] false [⟨.str,bs (fmtB x)⟩]:=by
 obtain ⟨s,l⟩:=x
 obtain ⟨h1,h2,h3⟩:=okB_lbs h
 have hl:=fmtN_len h1
 cases s
 ·refine fe Tryz.func113 Tryz.ntmps113 Tryz.results113 fun hwf=>?_
  try simp (maxSteps:=9^9) only[go_sem]
  repeat refine AI ?_
  refine cw (formatNat_fn l h1 h2) ?_
  try simp (maxSteps:=9^9) only[go_sem]
  rfl
 ·refine fe Tryz.func113 Tryz.ntmps113 Tryz.results113 fun hwf=>?_
  try simp (maxSteps:=9^9) only[go_sem]
  repeat refine AI ?_
  refine cw (formatNat_fn l h1 h2) ?_
  try simp (maxSteps:=9^9) only[go_sem]
  exact ⟨ml (by simp at hl h2; omega),rfl⟩
theorem okR_parts {r:DR} (h:okR r=true):okB r.1=true/\okN r.2=true/\∃ (z:Int) (n:Nat),r=(bigD z,natL n):=by
 obtain ⟨x,d⟩:=r
 rw [okR_eq] at h
 simp only [Bool.and_eq_true] at h
 obtain ⟨⟨⟨⟨⟨h1,h2⟩,_⟩,_⟩,_⟩,_⟩:=h
 obtain ⟨z,e1,_⟩:=okBP_iff.1 (okB_iff.1 h1)
 obtain ⟨n,e2,_⟩:=okNP_iff.1 (okN_iff.1 h2)
 exact ⟨h1,h2,z,n,by rw [e1,e2]⟩
theorem fmtB_len {x:DB} (h:okB x=true):(fmtB x).length<=542:=by
 obtain ⟨h1,h2,_⟩:=okB_lbs h
 have:=fmtN_len h1
 unfold fmtB
 split
 ·rw [List.length_cons]; omega
 ·omega
theorem fmtQ_len {r:DR} (h:okR r=true):(fmtQ r).length<=1084:=by
 obtain ⟨h1,h2,_⟩:=okR_parts h
 have a1:=fmtB_len h1
 have a2:=fmtN_len (okN_lbs h2).1
 have a3:=(okN_lbs h2).2
 unfold fmtQ
 split
 ·omega
 ·rw [List.length_append,List.length_cons]; omega
theorem formatRat_fn (r:DR) (h:okR r=true):Fn Tryz.prog 84 [⟨tRat,r⟩] false [⟨.str,bs (fmtQ r)⟩]:=by
 obtain ⟨h1,h2,z,n,rfl⟩:=okR_parts h
 have hv:val (natL n)=n:=val_natL n
 have a1:=fmtB_len h1
 have a2:=fmtN_len (okN_lbs h2).1
 have a3:=(okN_lbs h2).2
 dsimp only at h1 h2 a1 a2 a3
 have a1':(fmtB (decide (z < 0),natL z.natAbs)).length<=542:=a1
 have h':okR ((decide (z < 0),natL z.natAbs),natL n)=true:=h
 by_cases hn:n=1
 ·have e:fmtQ (bigD z,natL n)=fmtB (bigD z):=if_pos (by show val (natL n)=1; rw [hv]; exact hn)
  rw [e]
  refine fe Tryz.func84 Tryz.ntmps84 Tryz.results84 fun hwf=>?_
  try simp (maxSteps:=9^9) only[go_sem]
  repeat refine AI ?_
  refine cw (isOne_fn n) ?_
  try simp (maxSteps:=9^9) only[go_sem]
  try simp (maxSteps:=9^9) only[go_sem,hn]
  repeat refine AI ?_
  refine cw (formatBig_fn (bigD z) h1) ?_
  try simp (maxSteps:=9^9) only[go_sem]
 ·have e:fmtQ (bigD z,natL n)=fmtB (bigD z)++47 :: fmtN (natL n):=if_neg (by show ¬ val (natL n)=1; rw [hv]; exact hn)
  rw [e]
  refine fe Tryz.func84 Tryz.ntmps84 Tryz.results84 fun hwf=>?_
  try simp (maxSteps:=9^9) only[go_sem]
  repeat refine AI ?_
  refine cw (isOne_fn n) ?_
  try simp (maxSteps:=9^9) only[go_sem]
  try simp (maxSteps:=9^9) only[go_sem,hn]
  repeat refine AI ?_
  refine cw (formatBig_fn (bigD z) h1) ?_
  try simp (maxSteps:=9^9) only[go_sem]
  refine ⟨ml (by omega),?_⟩
  repeat refine AI ?_
  refine cw (formatNat_fn (natL n) (okN_lbs h2).1 (okN_lbs h2).2) ?_
  try simp (maxSteps:=9^9) only[go_sem]
  refine ⟨ml (by omega),by kernel_rfl,?_⟩
  rw [List.append_assoc]; rfl
theorem okPt_parts {p:DP} (h:okPt p=true):okR p.1=true/\okR p.2=true:=by
 rw [okPt,Bool.and_eq_true] at h; exact h
noncomputable def fmtPO (p:DP):List UInt8:=if okPt p=true then fmtP p else []
theorem fmtP_len {p:DP} (h:okPt p=true):(fmtP p).length<=2170:=by
 obtain ⟨h1,h2⟩:=okPt_parts h
 have a1:=fmtQ_len h1
 have a2:=fmtQ_len h2
 unfold fmtP
 rw [List.length_append,List.length_cons]; omega
theorem formatPoint_fn (p:DP):Fn Tryz.prog 50 [⟨tPoint,p⟩] false [⟨.str,bs (fmtPO p)⟩]:=by
 cases h:okPt p
 ·rw [show fmtPO p=[] from if_neg (by rw [h]; decide)]
  refine fe Tryz.func50 Tryz.ntmps50 Tryz.results50 fun hwf=>?_
  try simp (maxSteps:=9^9) only[go_sem]
  repeat refine AI ?_
  refine cw (arePoints1_fn p) ?_
  try simp (maxSteps:=9^9) only[go_sem]
  try simp (maxSteps:=9^9) only[go_sem,h]
 ·rw [show fmtPO p=fmtP p from if_pos h]
  obtain ⟨h1,h2⟩:=okPt_parts h
  have a1:=fmtQ_len h1
  have a2:=fmtQ_len h2
  refine fe Tryz.func50 Tryz.ntmps50 Tryz.results50 fun hwf=>?_
  try simp (maxSteps:=9^9) only[go_sem]
  repeat refine AI ?_
  refine cw (arePoints1_fn p) ?_
  try simp (maxSteps:=9^9) only[go_sem]
  try simp (maxSteps:=9^9) only[go_sem,h]
  repeat refine AI ?_
  refine cw (formatRat_fn p.1 h1) ?_
  try simp (maxSteps:=9^9) only[go_sem]
  refine ⟨ml (by omega),?_⟩
  repeat refine AI ?_
  refine cw (formatRat_fn p.2 h2) ?_
  try simp (maxSteps:=9^9) only[go_sem]
  refine ⟨ml (by omega),by kernel_rfl,?_⟩
  rw [List.append_assoc]; rfl
def ltr (h:Int):UInt8:=if h=0 then 101 else if h=1 then 110 else if h=2 then 119 else 115
noncomputable def fmtL (p:Int × DP):List UInt8:=if (0<=p.1/\p.1<=3)/\okPt p.2=true then ltr p.1 :: 32 :: fmtP p.2 else []
theorem ltr_cut {h:Int} (h0:0<=h) (h3:h<=3):List.drop h.toNat (List.take (h+1).toNat [101,110,119,115])=[ltr h]:=by
 obtain rfl|rfl|rfl|rfl:h=0\/h=1\/h=2\/h=3:=by omega
 all_goals rfl
theorem fmtL_no {h:Int} {q:DP} (ho:okPt q=false):fmtL (h,q)=[]:=if_neg fun ⟨_,e⟩=>by rw [ho] at e; cases e
theorem formatPlacement_fn (h:Int) (q:DP):Fn Tryz.prog 13 [⟨tStep,(h,q)⟩] false [⟨.str,bs (fmtL (h,q))⟩]:=by
 by_cases hh:0<=h/\h<=3
 ·cases ho:okPt q
  ·rw [fmtL_no ho]
   refine fe Tryz.func13 Tryz.ntmps13 Tryz.results13 fun hwf=>?_
   try simp (maxSteps:=9^9) only[go_sem]
   repeat refine AI ?_
   refine cw (isHeading_fn h) ?_
   try simp (maxSteps:=9^9) only[go_sem]
   try simp (maxSteps:=9^9) only[go_sem,hh]
   repeat refine AI ?_
   refine cw (arePoints1_fn q) ?_
   try simp (maxSteps:=9^9) only[go_sem]
   try simp (maxSteps:=9^9) only[go_sem,ho]
  ·rw [show fmtL (h,q)=ltr h :: 32 :: fmtP q from if_pos ⟨hh,ho⟩]
   have a1:=fmtP_len ho
   have e1:fmtPO q=fmtP q:=if_pos ho
   have c1:=formatPoint_fn q
   rw [e1] at c1
   have hx:h=0\/h=1\/h=2\/h=3:=by omega
   refine fe Tryz.func13 Tryz.ntmps13 Tryz.results13 fun hwf=>?_
   try simp (maxSteps:=9^9) only[go_sem]
   repeat refine AI ?_
   refine cw (isHeading_fn h) ?_
   try simp (maxSteps:=9^9) only[go_sem]
   try simp (maxSteps:=9^9) only[go_sem,hh]
   repeat refine AI ?_
   refine cw (arePoints1_fn q) ?_
   try simp (maxSteps:=9^9) only[go_sem]
   try simp (maxSteps:=9^9) only[go_sem,ho]
   refine ⟨by constructor<;>omega,hh.1,by omega,by omega,?_⟩
   rw [ltr_cut hh.1 hh.2]
   refine ⟨ml (by simp),?_⟩
   refine cw c1 ?_
   try simp (maxSteps:=9^9) only[go_sem]
   exact ⟨ml (by omega),by kernel_rfl⟩
 ·rw [show fmtL (h,q)=[] from if_neg (fun h=>hh h.1)]
  refine fe Tryz.func13 Tryz.ntmps13 Tryz.results13 fun hwf=>?_
  try simp (maxSteps:=9^9) only[go_sem]
  repeat refine AI ?_
  refine cw (isHeading_fn h) ?_
  try simp (maxSteps:=9^9) only[go_sem]
  try simp (maxSteps:=9^9) only[go_sem,hh]
def wrd (t:Int):List UInt8:=if t=-1 then [114,105,103,104,116] else if t=0 then [109,111,118,101] else [108,101,102,116]
noncomputable def fmtS (p:Int × DP):List UInt8:=if (-1<=p.1/\p.1<=1)/\okPt p.2=true then wrd p.1++32 :: fmtP p.2 else []
theorem fmtS_no {h:Int} {q:DP} (ho:okPt q=false):fmtS (h,q)=[]:=if_neg fun ⟨_,e⟩=>by rw [ho] at e; cases e
theorem stepWords_fn:Fn Tryz.prog 54 [] true [⟨.slice .str,[bs [114,105,103,104,116],bs [109,111,118,101],bs [108,101,102,116]]⟩]:=by
 refine fe Tryz.func54 Tryz.ntmps54 Tryz.results54 fun hwf=>?_
 try simp (maxSteps:=9^9) only[go_sem]
theorem wrd_nth {t:Int} (h0:-1<=t) (h3:t<=1):@nth .str [bs [114,105,103,104,116],bs [109,111,118,101],bs [108,101,102,116]] (t+1).toNat=bs (wrd t):=by
 obtain rfl|rfl|rfl:t=-1\/t=0\/t=1:=by omega
 all_goals rfl
theorem wrd_len (t:Int):(wrd t).length<=5:=by unfold wrd; split; decide; split; decide; decide
theorem formatStep_fn (h:Int) (q:DP):Fn Tryz.prog 18 [⟨tStep,(h,q)⟩] false [⟨.str,bs (fmtS (h,q))⟩]:=by
 by_cases hh:-1<=h/\h<=1
 ·cases ho:okPt q
  ·rw [fmtS_no ho]
   refine fe Tryz.func18 Tryz.ntmps18 Tryz.results18 fun hwf=>?_
   try simp (maxSteps:=9^9) only[go_sem]
   repeat refine AI ?_
   refine cw (within_fn h (-1) 1) ?_
   try simp (maxSteps:=9^9) only[go_sem]
   try simp (maxSteps:=9^9) only[go_sem,hh]
   repeat refine AI ?_
   refine cw (arePoints1_fn q) ?_
   try simp (maxSteps:=9^9) only[go_sem]
   try simp (maxSteps:=9^9) only[go_sem,ho]
  ·rw [show fmtS (h,q)=wrd h++32 :: fmtP q from if_pos ⟨hh,ho⟩]
   have a1:=fmtP_len ho
   have a2:=wrd_len h
   have e1:fmtPO q=fmtP q:=if_pos ho
   have c1:=formatPoint_fn q
   rw [e1] at c1
   refine fe Tryz.func18 Tryz.ntmps18 Tryz.results18 fun hwf=>?_
   try simp (maxSteps:=9^9) only[go_sem]
   repeat refine AI ?_
   refine cw (within_fn h (-1) 1) ?_
   try simp (maxSteps:=9^9) only[go_sem]
   try simp (maxSteps:=9^9) only[go_sem,hh]
   repeat refine AI ?_
   refine cw (arePoints1_fn q) ?_
   try simp (maxSteps:=9^9) only[go_sem]
   try simp (maxSteps:=9^9) only[go_sem,ho]
   repeat refine AI ?_
   refine cw stepWords_fn ?_
   try simp (maxSteps:=9^9) only[go_sem]
   refine ⟨by constructor<;>omega,by omega,by show h+1 < ((3:Nat):Int); omega,?_⟩
   rw [wrd_nth hh.1 hh.2]
   try simp (maxSteps:=9^9) only[go_sem]
   refine ⟨ml (by omega),?_⟩
   refine cw c1 ?_
   try simp (maxSteps:=9^9) only[go_sem]
   refine ⟨ml (by omega),by kernel_rfl,?_⟩
   rw [List.append_assoc]; rfl
 ·rw [show fmtS (h,q)=[] from if_neg (fun h=>hh h.1)]
  refine fe Tryz.func18 Tryz.ntmps18 Tryz.results18 fun hwf=>?_
  try simp (maxSteps:=9^9) only[go_sem]
  repeat refine AI ?_
  refine cw (within_fn h (-1) 1) ?_
  try simp (maxSteps:=9^9) only[go_sem]
  try simp (maxSteps:=9^9) only[go_sem,hh]
theorem bfr_no {c:UInt8}:∀ {s:List UInt8},c ∉ s->bfr c s=s
 | [],_=>rfl
 | b :: l,h=>by
  rw [bfr,if_neg (fun e=>h (by rw [e]; exact List.mem_cons_self)),bfr_no fun hm=>h (List.mem_cons_of_mem _ hm)]
theorem bfr_app {c:UInt8} {y:List UInt8}:∀ {x:List UInt8},c ∉ x->bfr c (x++c :: y)=x
 | [],_=>if_pos rfl
 | b :: l,h=>by
  rw [List.cons_append,bfr,if_neg (fun e=>h (by rw [e]; exact List.mem_cons_self)),bfr_app fun hm=>h (List.mem_cons_of_mem _ hm)]
theorem aft_app {c:UInt8} {x y:List UInt8} (h:c ∉ x):aft c (x++c :: y)=y:=by
 rw [aft,bfr_app h,show x++c :: y=(x++[c])++y by rw [List.append_assoc]; rfl,List.drop_left' (by rw [List.length_append]; rfl)]
theorem bfr_not (c:UInt8):∀ s:List UInt8,c ∉ bfr c s
 | []=>fun h=>by cases h
 | b :: l=>fun h=>by
  unfold bfr at h
  split at h
  ·cases h
  ·rename_i hb
   rcases List.mem_cons.1 h with e|e
   ·exact hb e.symm
   ·exact bfr_not c l e
theorem bfr_aft {c:UInt8}:∀ {s:List UInt8},c ∈ s->s=bfr c s++c :: aft c s
 | [],h=>by cases h
 | b :: l,h=>by
  by_cases hb:b=c
  ·rw [aft,bfr,if_pos hb,hb]; rfl
  ·have:=bfr_aft ((List.mem_cons.1 h).resolve_left fun e=>hb e.symm)
   rw [aft,bfr,if_neg hb,List.length_cons,List.drop_succ_cons,List.cons_append]
   exact congrArg (b :: ·) this
def spl (c:UInt8):List UInt8->List (List UInt8)
 | []=>[[]]
 | b :: l=>if b=c then [] :: spl c l else match spl c l with
  | []=>[[b]]
  | x :: r=>(b :: x) :: r
theorem spl_no {c:UInt8}:∀ {s:List UInt8},c ∉ s->spl c s=[s]
 | [],_=>rfl
 | b :: l,h=>by
  rw [spl,if_neg (fun e=>h (by rw [e]; exact List.mem_cons_self)),spl_no fun hm=>h (List.mem_cons_of_mem _ hm)]
theorem spl_app {c:UInt8} {y:List UInt8}:∀ {x:List UInt8},c ∉ x->spl c (x++c :: y)=x :: spl c y
 | [],_=>if_pos rfl
 | b :: l,h=>by
  rw [List.cons_append,spl,if_neg (fun e=>h (by rw [e]; exact List.mem_cons_self)),spl_app fun hm=>h (List.mem_cons_of_mem _ hm)]
theorem spl_in {c:UInt8} {s:List UInt8} (h:c ∈ s):spl c s=bfr c s :: spl c (aft c s):=by
 have e:=bfr_aft h
 have:=spl_app (y:=aft c s) (bfr_not c s)
 rw [<-e] at this; exact this
theorem spl_cons (c:UInt8) (s:List UInt8):∃ r,spl c s=bfr c s :: r:=by
 by_cases h:c ∈ s
 ·exact ⟨_,spl_in h⟩
 ·exact ⟨[],by rw [spl_no h,bfr_no h]⟩
theorem spl_len (c:UInt8):∀ s:List UInt8,(spl c s).length<=s.length+1
 | []=>Nat.le_refl _
 | b :: l=>by
  have:=spl_len c l
  rw [spl]
  split
  ·rw [List.length_cons,List.length_cons]; omega
  ·split
   ·simp
   ·rename_i e; rw [e] at this; simp at this ⊢; omega
theorem notD {c:UInt8} (h:c.toNat < 48):¬ isD c:=fun h'=>by have:=h'.1; omega
theorem fmtN_no {l:List Int} (h:lbs l) {c:UInt8} (hc:c.toNat < 48):c ∉ fmtN l:=fun hm=>notD hc (fmtN_D h c hm)
theorem okNP_lbs {l:List Int} (h:okNP l):lbs l:=fun i hi=>by rw [ni_lt hi]; exact h.1 _ (List.getElem_mem hi)
theorem okB_N {x:DB} (h:okB x=true):okNP x.2/\¬ (x.1=true/\x.2=[]):=by
 have h:=okB_iff.1 h
 exact ⟨h.1,fun ⟨a,b⟩=>h.2 ⟨a,by rw [b]; rfl⟩⟩
theorem sgP_fmt {x:DB} (h:okB x=true):sgP (fmtB x) ↔ x.1=true:=by
 obtain ⟨n,l⟩:=x
 cases n
 ·refine ⟨fun ⟨t,e⟩=>?_,fun e=>by cases e⟩
  have e:fmtN l=45 :: t:=e
  exact absurd (by rw [e]; exact List.mem_cons_self) (fmtN_no (c:=45) (okNP_lbs (okB_N h).1) (by decide))
 ·exact ⟨fun _=>rfl,fun _=>⟨fmtN l,rfl⟩⟩
theorem dgP_fmt {x:DB} (h:okB x=true):dgP (fmtB x)=fmtN x.2:=by
 have hs:=sgP_fmt h
 have ht:=sgP_take (fmtB x)
 obtain ⟨n,l⟩:=x
 cases n
 ·rw [bdec_f (fun e=>by have:=hs.1 e; cases this)] at ht
  exact if_neg (of_decide_eq_false ht.symm)
 ·rfl
theorem pB_fmt {x:DB} (h:okB x=true):pB (fmtB x)=some x:=by
 obtain ⟨h1,h2⟩:=okB_N h
 have hp:=pN_fmt h1
 have hs:=sgP_fmt h
 have hb:bigP (fmtB x):=⟨x.2,by rw [dgP_fmt h]; exact hp,fun ⟨a,b⟩=>h2 ⟨hs.1 a,b⟩⟩
 rw [pB,if_pos hb,dgP_fmt h,hp]
 have e:bdec (sgP (fmtB x))=x.1:=by
  cases hx:x.1
  ·exact bdec_f fun e=>by have:=hs.1 e; rw [hx] at this; cases this
  ·exact bdec_t (hs.2 hx)
 rw [e]; rfl
theorem fmtB_no {x:DB} (h:okB x=true) {c:UInt8} (hc:c.toNat < 48) (h45:c ≠ 45):c ∉ fmtB x:=by
 have h1:=fmtN_no (okNP_lbs (okB_N h).1) hc
 unfold fmtB
 split
 ·exact fun hm=>(List.mem_cons.1 hm).elim h45 h1
 ·exact h1
theorem fmtQ_one {r:DR} (h:okR r=true) (h1:val r.2=1):r.2=[1]:=by
 obtain ⟨_,_,z,n,rfl⟩:=okR_parts h
 have:n=1:=(val_natL n).symm.trans h1
 subst this
 exact natL_1
theorem okN_P {r:DR} (h:okR r=true):okNP r.2:=okN_iff.1 (okR_parts h).2.1
theorem fmtQ_in {r:DR} (h:okR r=true) (hm:47 ∈ fmtQ r):bfr 47 (fmtQ r)=fmtB r.1/\aft 47 (fmtQ r)=fmtN r.2:=by
 have h1:=fmtB_no (okR_parts h).1 (c:=47) (by decide) (by decide)
 by_cases hv:val r.2=1
 ·rw [fmtQ,if_pos hv] at hm; exact absurd hm h1
 ·rw [fmtQ,if_neg hv]
  exact ⟨bfr_app h1,aft_app h1⟩
theorem fmtQ_out {r:DR} (h:okR r=true) (hm:47 ∉ fmtQ r):fmtQ r=fmtB r.1/\r.2=[1]:=by
 by_cases hv:val r.2=1
 ·exact ⟨if_pos hv,fmtQ_one h hv⟩
 ·rw [fmtQ,if_neg hv] at hm
  exact absurd (List.mem_append_right _ List.mem_cons_self) hm
theorem fmtQ_no {r:DR} (h:okR r=true) {c:UInt8} (hc:c.toNat < 48) (h45:c ≠ 45) (h47:c ≠ 47):c ∉ fmtQ r:=by
 have h1:=fmtB_no (okR_parts h).1 hc h45
 have h2:=fmtN_no (okNP_lbs (okN_P h)) hc
 unfold fmtQ
 split
 ·exact h1
 ·exact fun hm=>(List.mem_append.1 hm).elim h1 fun hm=>(List.mem_cons.1 hm).elim h47 h2
theorem fmtQ_inj {r q:DR} (h:okR r=true) (h':okR q=true) (e:fmtQ r=fmtQ q):r=q:=by
 by_cases hm:47 ∈ fmtQ r
 ·obtain ⟨a1,a2⟩:=fmtQ_in h hm
  obtain ⟨b1,b2⟩:=fmtQ_in h' (by rw [<-e]; exact hm)
  rw [e] at a1 a2
  have e1:some r.1=some q.1:=by rw [<-pB_fmt (okR_parts h).1,<-pB_fmt (okR_parts h').1,<-a1,<-b1]
  have e2:some r.2=some q.2:=by rw [<-pN_fmt (okN_P h),<-pN_fmt (okN_P h'),<-a2,<-b2]
  exact Prod.ext (Option.some.inj e1) (Option.some.inj e2)
 ·obtain ⟨a1,a2⟩:=fmtQ_out h hm
  obtain ⟨b1,b2⟩:=fmtQ_out h' (by rw [<-e]; exact hm)
  have e1:some r.1=some q.1:=by rw [<-pB_fmt (okR_parts h).1,<-pB_fmt (okR_parts h').1,<-a1,<-b1,e]
  exact Prod.ext (Option.some.inj e1) (a2.trans b2.symm)
open Classical in
noncomputable def unF {α:Type} (ok:α->Prop) (f:α->List UInt8) (s:List UInt8):Option α:=if h:∃ x,ok x/\f x=s then some h.choose else none
theorem unF_some {α:Type} {ok:α->Prop} {f:α->List UInt8} (hi:∀ x y,ok x->ok y->f x=f y->x=y) {x:α} {s:List UInt8} (h:ok x) (e:f x=s):unF ok f s=some x:=by
 have hx:∃ x,ok x/\f x=s:=⟨x,h,e⟩
 rw [unF,dif_pos hx,hi _ _ hx.choose_spec.1 h (hx.choose_spec.2.trans e.symm)]
theorem unF_none {α:Type} {ok:α->Prop} {f:α->List UInt8} {s:List UInt8} (h:∀ x,ok x->f x ≠ s):unF ok f s=none:=dif_neg fun ⟨x,h1,h2⟩=>h x h1 h2
theorem unF_eq {α:Type} {ok:α->Prop} {f:α->List UInt8} {s:List UInt8} {x:α} (h:unF ok f s=some x):ok x/\f x=s:=by
 unfold unF at h
 split at h
 ·rename_i hx
  rw [<-Option.some.inj h]; exact hx.choose_spec
 ·cases h
noncomputable def pQ (s:List UInt8):Option DR:=unF (okR ·=true) fmtQ s
theorem pQ_some {r:DR} (h:okR r=true):pQ (fmtQ r)=some r:=unF_some (fun _ _=>fmtQ_inj) h rfl
noncomputable def pP (s:List UInt8):Option DP:=unF (okPt ·=true) fmtP s
theorem fmtP_in {p:DP} (h:okPt p=true):44 ∈ fmtP p/\bfr 44 (fmtP p)=fmtQ p.1/\aft 44 (fmtP p)=fmtQ p.2:=by
 have h1:=fmtQ_no (okPt_parts h).1 (c:=44) (by decide) (by decide) (by decide)
 exact ⟨List.mem_append_right _ List.mem_cons_self,bfr_app h1,aft_app h1⟩
theorem fmtP_inj {p q:DP} (h:okPt p=true) (h':okPt q=true) (e:fmtP p=fmtP q):p=q:=by
 obtain ⟨_,a1,a2⟩:=fmtP_in h
 obtain ⟨_,b1,b2⟩:=fmtP_in h'
 rw [e] at a1 a2
 exact Prod.ext (fmtQ_inj (okPt_parts h).1 (okPt_parts h').1 (a1.symm.trans b1)) (fmtQ_inj (okPt_parts h).2 (okPt_parts h').2 (a2.symm.trans b2))
theorem fmtP_no {p:DP} (h:okPt p=true) {c:UInt8} (hc:c.toNat < 48) (h45:c ≠ 45) (h47:c ≠ 47) (h44:c ≠ 44):c ∉ fmtP p:=fun hm =>
 (List.mem_append.1 hm).elim (fmtQ_no (okPt_parts h).1 hc h45 h47) fun hm=>(List.mem_cons.1 hm).elim h44 (fmtQ_no (okPt_parts h).2 hc h45 h47)
theorem pP_eq {s:List UInt8}:pP s=if 44 ∈ s then (match pQ (bfr 44 s),pQ (aft 44 s) with|some x,some y=>some (x,y)|_,_=>none) else none:=by
 by_cases hm:44 ∈ s
 ·rw [if_pos hm]
  cases hx:pQ (bfr 44 s) with
  | none =>
   refine unF_none fun p hp e=>?_
   have:=(fmtP_in hp).2.1
   rw [e] at this
   rw [this,pQ_some (okPt_parts hp).1] at hx; cases hx
  | some x =>
   cases hy:pQ (aft 44 s) with
   | none =>
    refine unF_none fun p hp e=>?_
    have:=(fmtP_in hp).2.2
    rw [e] at this
    rw [this,pQ_some (okPt_parts hp).2] at hy; cases hy
   | some y =>
    obtain ⟨x1,x2⟩:=unF_eq hx
    obtain ⟨y1,y2⟩:=unF_eq hy
    refine unF_some (fun _ _=>fmtP_inj) (x:=(x,y)) ?_ ?_
    ·show (okR x && okR y)=true
     rw [show okR x=true from x1,show okR y=true from y1]; rfl
    ·show fmtQ x++44 :: fmtQ y=s
     rw [x2,y2]; exact (bfr_aft hm).symm
 ·rw [if_neg hm]
  exact unF_none fun p hp e=>hm (by rw [<-e]; exact (fmtP_in hp).1)
@[go_sem] theorem bts_str:bts Tryz.prog 9=some 16:=by kernel_rfl
theorem i64_nat {n:Int} (h0:0<=n) (h:n<=1048578):I64 n:=by constructor<;>omega
theorem pQ_no1 {s:List UInt8} (hm:47 ∈ s) (h:pB (bfr 47 s)=none\/pN (aft 47 s)=none):pQ s=none:=unF_none fun r hr e=>by
 subst e
 obtain ⟨a1,a2⟩:=fmtQ_in hr hm
 rw [a1,a2,pB_fmt (okR_parts hr).1,pN_fmt (okN_P hr)] at h
 rcases h with h|h<;>cases h
theorem pQ_no2 {s:List UInt8} {x:DB} {d:List Int} (hm:47 ∈ s) (hx:pB (bfr 47 s)=some x) (hd:pN (aft 47 s)=some d) (h:¬ (okR (x,d)=true/\fmtQ (x,d)=s)):pQ s=none:=unF_none fun r hr e=>by
 subst e
 obtain ⟨a1,a2⟩:=fmtQ_in hr hm
 rw [a1,pB_fmt (okR_parts hr).1] at hx
 rw [a2,pN_fmt (okN_P hr)] at hd
 cases hx; cases hd
 exact h ⟨hr,rfl⟩
theorem pQ_no3 {s:List UInt8} (hm:47 ∉ s) (h:pB s=none):pQ s=none:=unF_none fun r hr e=>by
 subst e
 obtain ⟨a1,a2⟩:=fmtQ_out hr hm
 rw [a1,pB_fmt (okR_parts hr).1] at h
 cases h
theorem pQ_no4 {s:List UInt8} {x:DB} (hm:47 ∉ s) (hx:pB s=some x) (h:¬ (okR (x,[1])=true/\fmtQ (x,[1])=s)):pQ s=none:=unF_none fun r hr e=>by
 subst e
 obtain ⟨a1,a2⟩:=fmtQ_out hr hm
 rw [a1,pB_fmt (okR_parts hr).1] at hx
 cases hx
 have e:(r.1,[1])=r:=by rw [<-a2]
 exact h ⟨by rw [e]; exact hr,by rw [e]⟩
theorem pQ_yes {s:List UInt8} {r:DR} (h:okR r=true) (e:fmtQ r=s):pQ s=some r:=by rw [<-e]; exact pQ_some h
theorem parseBig_none {s:List UInt8} (hl:s.length<=1048576) (h:pB s=none):FnT Tryz.prog 121 [⟨.str,bs s⟩] [⟨tBig,(false,[])⟩,⟨.bool,false⟩]:=by
 have:=parseBig_fn s hl
 rw [h] at this
 exact this
theorem parseBig_some {s:List UInt8} {x:DB} (hl:s.length<=1048576) (h:pB s=some x):FnT Tryz.prog 121 [⟨.str,bs s⟩] [⟨tBig,x⟩,⟨.bool,true⟩]:=by
 have:=parseBig_fn s hl
 rw [h] at this
 exact this
theorem aft_len (c:UInt8) (s:List UInt8):(aft c s).length<=s.length:=by rw [aft,List.length_drop]; omega
theorem parseRat_in (s:List UInt8) (hm:47 ∈ s) (hl:s.length<=1048576):FnT Tryz.prog 90 [⟨.str,bs s⟩] [⟨tRat,(pQ s).getD ((false,[]),[])⟩,⟨.bool,(pQ s).isSome⟩]:=by
 have l1:(bfr 47 s).length<=1048576:=Nat.le_trans (bfr_len 47 s).1 hl
 have l2:(aft 47 s).length<=1048576:=Nat.le_trans (aft_len 47 s) hl
 cases hx:pB (bfr 47 s) with
 | none =>
  rw [pQ_no1 hm (.inl hx)]
  cases hd:pN (aft 47 s) with
  | none =>
   refine fnT_enter tabOK mixes Tryz.func90 rfl rfl _ Tryz.ntmps90 _ Tryz.results90 (by simp) fun hwf=>?_
   try simp (maxSteps:=9^9) only[go_sem]
   repeat refine AI ?_
   refine cw (cut_some s 47 hm hl) ?_
   try simp (maxSteps:=9^9) only[go_sem]
   repeat refine AI ?_
   refine CallW.to (parseBig_none l1 hx) ?_
   try simp (maxSteps:=9^9) only[go_sem]
   repeat refine AI ?_
   refine CallW.to (parseNat_none l2 hd) ?_
   try simp (maxSteps:=9^9) only[go_sem]
  | some d =>
   refine fnT_enter tabOK mixes Tryz.func90 rfl rfl _ Tryz.ntmps90 _ Tryz.results90 (by simp) fun hwf=>?_
   try simp (maxSteps:=9^9) only[go_sem]
   repeat refine AI ?_
   refine cw (cut_some s 47 hm hl) ?_
   try simp (maxSteps:=9^9) only[go_sem]
   repeat refine AI ?_
   refine CallW.to (parseBig_none l1 hx) ?_
   try simp (maxSteps:=9^9) only[go_sem]
   repeat refine AI ?_
   refine CallW.to (parseNat_some l2 hd) ?_
   try simp (maxSteps:=9^9) only[go_sem]
 | some x =>
  cases hd:pN (aft 47 s) with
  | none =>
   rw [pQ_no1 hm (.inr hd)]
   refine fnT_enter tabOK mixes Tryz.func90 rfl rfl _ Tryz.ntmps90 _ Tryz.results90 (by simp) fun hwf=>?_
   try simp (maxSteps:=9^9) only[go_sem]
   repeat refine AI ?_
   refine cw (cut_some s 47 hm hl) ?_
   try simp (maxSteps:=9^9) only[go_sem]
   repeat refine AI ?_
   refine CallW.to (parseBig_some l1 hx) ?_
   try simp (maxSteps:=9^9) only[go_sem]
   repeat refine AI ?_
   refine CallW.to (parseNat_none l2 hd) ?_
   try simp (maxSteps:=9^9) only[go_sem]
  | some d =>
   by_cases ho:okR (x,d)=true
   ·by_cases he:fmtQ (x,d)=s
    ·rw [pQ_yes ho he]
     refine fnT_enter tabOK mixes Tryz.func90 rfl rfl _ Tryz.ntmps90 _ Tryz.results90 (by simp) fun hwf=>?_
     try simp (maxSteps:=9^9) only[go_sem]
     repeat refine AI ?_
     refine cw (cut_some s 47 hm hl) ?_
     try simp (maxSteps:=9^9) only[go_sem]
     repeat refine AI ?_
     refine CallW.to (parseBig_some l1 hx) ?_
     try simp (maxSteps:=9^9) only[go_sem]
     repeat refine AI ?_
     refine CallW.to (parseNat_some l2 hd) ?_
     try simp (maxSteps:=9^9) only[go_sem]
     repeat refine AI ?_
     refine CallW.mx (implRatOk_fn (x,d)) ?_
     try simp (maxSteps:=9^9) only[go_sem]
     rw [ho]
     try simp (maxSteps:=9^9) only[go_sem]
     repeat refine AI ?_
     refine CallW.mx (formatRat_fn (x,d) ho) ?_
     try simp (maxSteps:=9^9) only[go_sem]
     refine CondW_not (fun h=>absurd he h) (fun _=>?_)
     try simp (maxSteps:=9^9) only[go_sem]
    ·rw [pQ_no2 hm hx hd fun h=>he h.2]
     refine fnT_enter tabOK mixes Tryz.func90 rfl rfl _ Tryz.ntmps90 _ Tryz.results90 (by simp) fun hwf=>?_
     try simp (maxSteps:=9^9) only[go_sem]
     repeat refine AI ?_
     refine cw (cut_some s 47 hm hl) ?_
     try simp (maxSteps:=9^9) only[go_sem]
     repeat refine AI ?_
     refine CallW.to (parseBig_some l1 hx) ?_
     try simp (maxSteps:=9^9) only[go_sem]
     repeat refine AI ?_
     refine CallW.to (parseNat_some l2 hd) ?_
     try simp (maxSteps:=9^9) only[go_sem]
     repeat refine AI ?_
     refine CallW.mx (implRatOk_fn (x,d)) ?_
     try simp (maxSteps:=9^9) only[go_sem]
     rw [ho]
     try simp (maxSteps:=9^9) only[go_sem]
     repeat refine AI ?_
     refine CallW.mx (formatRat_fn (x,d) ho) ?_
     try simp (maxSteps:=9^9) only[go_sem]
     refine CondW_not (fun _=>?_) (fun h=>absurd h he)
     try simp (maxSteps:=9^9) only[go_sem]
   ·rw [pQ_no2 hm hx hd fun h=>ho h.1]
    rw [Bool.not_eq_true] at ho
    refine fnT_enter tabOK mixes Tryz.func90 rfl rfl _ Tryz.ntmps90 _ Tryz.results90 (by simp) fun hwf=>?_
    try simp (maxSteps:=9^9) only[go_sem]
    repeat refine AI ?_
    refine cw (cut_some s 47 hm hl) ?_
    try simp (maxSteps:=9^9) only[go_sem]
    repeat refine AI ?_
    refine CallW.to (parseBig_some l1 hx) ?_
    try simp (maxSteps:=9^9) only[go_sem]
    repeat refine AI ?_
    refine CallW.to (parseNat_some l2 hd) ?_
    try simp (maxSteps:=9^9) only[go_sem]
    repeat refine AI ?_
    refine CallW.mx (implRatOk_fn (x,d)) ?_
    try simp (maxSteps:=9^9) only[go_sem]
    rw [ho]
    try simp (maxSteps:=9^9) only[go_sem]
theorem parseRat_out (s:List UInt8) (hm:47 ∉ s) (hl:s.length<=1048576):FnT Tryz.prog 90 [⟨.str,bs s⟩] [⟨tRat,(pQ s).getD ((false,[]),[])⟩,⟨.bool,(pQ s).isSome⟩]:=by
 cases hx:pB s with
 | none =>
  rw [pQ_no3 hm hx]
  refine fnT_enter tabOK mixes Tryz.func90 rfl rfl _ Tryz.ntmps90 _ Tryz.results90 (by simp) fun hwf=>?_
  try simp (maxSteps:=9^9) only[go_sem]
  repeat refine AI ?_
  refine cw (cut_none s 47 hm hl) ?_
  try simp (maxSteps:=9^9) only[go_sem]
  repeat refine AI ?_
  refine CallW.to (parseBig_none hl hx) ?_
  try simp (maxSteps:=9^9) only[go_sem]
 | some x =>
  by_cases ho:okR (x,[1])=true
  ·by_cases he:fmtQ (x,[1])=s
   ·rw [pQ_yes ho he]
    refine fnT_enter tabOK mixes Tryz.func90 rfl rfl _ Tryz.ntmps90 _ Tryz.results90 (by simp) fun hwf=>?_
    try simp (maxSteps:=9^9) only[go_sem]
    repeat refine AI ?_
    refine cw (cut_none s 47 hm hl) ?_
    try simp (maxSteps:=9^9) only[go_sem]
    repeat refine AI ?_
    refine CallW.to (parseBig_some hl hx) ?_
    try simp (maxSteps:=9^9) only[go_sem]
    repeat refine AI ?_
    refine CallW.mx (implRatOk_fn (x,[1])) ?_
    try simp (maxSteps:=9^9) only[go_sem]
    rw [ho]
    try simp (maxSteps:=9^9) only[go_sem]
    repeat refine AI ?_
    refine CallW.mx (formatRat_fn (x,[1]) ho) ?_
    try simp (maxSteps:=9^9) only[go_sem]
    refine CondW_not (fun h=>absurd he h) (fun _=>?_)
    try simp (maxSteps:=9^9) only[go_sem]
   ·rw [pQ_no4 hm hx fun h=>he h.2]
    refine fnT_enter tabOK mixes Tryz.func90 rfl rfl _ Tryz.ntmps90 _ Tryz.results90 (by simp) fun hwf=>?_
    try simp (maxSteps:=9^9) only[go_sem]
    repeat refine AI ?_
    refine cw (cut_none s 47 hm hl) ?_
    try simp (maxSteps:=9^9) only[go_sem]
    repeat refine AI ?_
    refine CallW.to (parseBig_some hl hx) ?_
    try simp (maxSteps:=9^9) only[go_sem]
    repeat refine AI ?_
    refine CallW.mx (implRatOk_fn (x,[1])) ?_
    try simp (maxSteps:=9^9) only[go_sem]
    rw [ho]
    try simp (maxSteps:=9^9) only[go_sem]
    repeat refine AI ?_
    refine CallW.mx (formatRat_fn (x,[1]) ho) ?_
    try simp (maxSteps:=9^9) only[go_sem]
    refine CondW_not (fun _=>?_) (fun h=>absurd h he)
    try simp (maxSteps:=9^9) only[go_sem]
  ·rw [pQ_no4 hm hx fun h=>ho h.1]
   rw [Bool.not_eq_true] at ho
   refine fnT_enter tabOK mixes Tryz.func90 rfl rfl _ Tryz.ntmps90 _ Tryz.results90 (by simp) fun hwf=>?_
   try simp (maxSteps:=9^9) only[go_sem]
   repeat refine AI ?_
   refine cw (cut_none s 47 hm hl) ?_
   try simp (maxSteps:=9^9) only[go_sem]
   repeat refine AI ?_
   refine CallW.to (parseBig_some hl hx) ?_
   try simp (maxSteps:=9^9) only[go_sem]
   repeat refine AI ?_
   refine CallW.mx (implRatOk_fn (x,[1])) ?_
   try simp (maxSteps:=9^9) only[go_sem]
   rw [ho]
   try simp (maxSteps:=9^9) only[go_sem]
theorem parseRat_fn (s:List UInt8) (hl:s.length<=1048576):FnT Tryz.prog 90 [⟨.str,bs s⟩] [⟨tRat,(pQ s).getD ((false,[]),[])⟩,⟨.bool,(pQ s).isSome⟩]:=by
 by_cases hm:47 ∈ s
 ·exact parseRat_in s hm hl
 ·exact parseRat_out s hm hl
theorem pP_no1 {s:List UInt8} (hm:44 ∉ s):pP s=none:=by rw [pP_eq,if_neg hm]
theorem pP_no2 {s:List UInt8} (h:pQ (bfr 44 s)=none):pP s=none:=by
 rw [pP_eq]
 split
 ·rw [h]
 ·rfl
theorem pP_no3 {s:List UInt8} (h:pQ (aft 44 s)=none):pP s=none:=by
 rw [pP_eq]
 split
 ·rw [h]; cases pQ (bfr 44 s)<;>rfl
 ·rfl
theorem pP_yes {s:List UInt8} {x y:DR} (hm:44 ∈ s) (hx:pQ (bfr 44 s)=some x) (hy:pQ (aft 44 s)=some y):pP s=some (x,y):=by rw [pP_eq,if_pos hm,hx,hy]
theorem parseRat_none {s:List UInt8} (hl:s.length<=1048576) (h:pQ s=none):FnT Tryz.prog 90 [⟨.str,bs s⟩] [⟨tRat,((false,[]),[])⟩,⟨.bool,false⟩]:=by
 have:=parseRat_fn s hl
 rw [h] at this
 exact this
theorem parseRat_some {s:List UInt8} {x:DR} (hl:s.length<=1048576) (h:pQ s=some x):FnT Tryz.prog 90 [⟨.str,bs s⟩] [⟨tRat,x⟩,⟨.bool,true⟩]:=by
 have:=parseRat_fn s hl
 rw [h] at this
 exact this
theorem parsePoint_fn (s:List UInt8) (hl:s.length<=1048576):FnT Tryz.prog 61 [⟨.str,bs s⟩] [⟨tPoint,(pP s).getD (((false,[]),[]),((false,[]),[]))⟩,⟨.bool,(pP s).isSome⟩]:=by
 have l1:(bfr 44 s).length<=1048576:=Nat.le_trans (bfr_len 44 s).1 hl
 have l2:(aft 44 s).length<=1048576:=Nat.le_trans (aft_len 44 s) hl
 by_cases hm:44 ∈ s
 ·cases hx:pQ (bfr 44 s) with
  | none =>
   rw [pP_no2 hx]
   refine fnT_enter tabOK mixes Tryz.func61 rfl rfl _ Tryz.ntmps61 _ Tryz.results61 (by simp) fun hwf=>?_
   try simp (maxSteps:=9^9) only[go_sem]
   repeat refine AI ?_
   refine cw (cut_some s 44 hm hl) ?_
   try simp (maxSteps:=9^9) only[go_sem]
   repeat refine AI ?_
   refine CallW.to (parseRat_none l1 hx) ?_
   try simp (maxSteps:=9^9) only[go_sem]
   repeat refine AI ?_
   refine CallW.to (parseRat_fn (aft 44 s) l2) ?_
   try simp (maxSteps:=9^9) only[go_sem]
  | some x =>
   cases hy:pQ (aft 44 s) with
   | none =>
    rw [pP_no3 hy]
    refine fnT_enter tabOK mixes Tryz.func61 rfl rfl _ Tryz.ntmps61 _ Tryz.results61 (by simp) fun hwf=>?_
    try simp (maxSteps:=9^9) only[go_sem]
    repeat refine AI ?_
    refine cw (cut_some s 44 hm hl) ?_
    try simp (maxSteps:=9^9) only[go_sem]
    repeat refine AI ?_
    refine CallW.to (parseRat_some l1 hx) ?_
    try simp (maxSteps:=9^9) only[go_sem]
    repeat refine AI ?_
    refine CallW.to (parseRat_none l2 hy) ?_
    try simp (maxSteps:=9^9) only[go_sem]
   | some y =>
    rw [pP_yes hm hx hy]
    refine fnT_enter tabOK mixes Tryz.func61 rfl rfl _ Tryz.ntmps61 _ Tryz.results61 (by simp) fun hwf=>?_
    try simp (maxSteps:=9^9) only[go_sem]
    repeat refine AI ?_
    refine cw (cut_some s 44 hm hl) ?_
    try simp (maxSteps:=9^9) only[go_sem]
    repeat refine AI ?_
    refine CallW.to (parseRat_some l1 hx) ?_
    try simp (maxSteps:=9^9) only[go_sem]
    repeat refine AI ?_
    refine CallW.to (parseRat_some l2 hy) ?_
    try simp (maxSteps:=9^9) only[go_sem]
 ·rw [pP_no1 hm]
  refine fnT_enter tabOK mixes Tryz.func61 rfl rfl _ Tryz.ntmps61 _ Tryz.results61 (by simp) fun hwf=>?_
  try simp (maxSteps:=9^9) only[go_sem]
  repeat refine AI ?_
  refine cw (cut_none s 44 hm hl) ?_
  try simp (maxSteps:=9^9) only[go_sem]
  repeat refine AI ?_
  refine CallW.to (parseRat_fn s hl) ?_
  try simp (maxSteps:=9^9) only[go_sem]
  repeat refine AI ?_
  refine CallW.to (parseRat_fn [] (by decide)) ?_
  try simp (maxSteps:=9^9) only[go_sem]
def okL (p:Int × DP):Prop:=(0<=p.1/\p.1<=3)/\okPt p.2=true
noncomputable def pL (s:List UInt8):Option (Int × DP):=unF okL fmtL s
theorem fmtL_ok {p:Int × DP} (h:okL p):fmtL p=ltr p.1 :: 32 :: fmtP p.2:=if_pos h
theorem ltr_cases {h:Int} (h0:0<=h/\h<=3):h=0\/h=1\/h=2\/h=3:=by omega
theorem ltr_no {h:Int} (h0:0<=h/\h<=3):(32:UInt8) ∉ [ltr h]:=by
 rcases ltr_cases h0 with rfl|rfl|rfl|rfl<;>decide
theorem ltr_ix {h:Int} (h0:0<=h/\h<=3):Lib.indexByte [101,110,119,115] (ltr h)=h:=by
 rcases ltr_cases h0 with rfl|rfl|rfl|rfl<;>rfl
theorem ix_ltr (c:UInt8):(∃ h:Int,(0<=h/\h<=3)/\ltr h=c/\Lib.indexByte [101,110,119,115] c=h)\/Lib.indexByte [101,110,119,115] c=-1:=by
 by_cases hc:c ∈ [101,110,119,115]
 ·simp only [List.mem_cons,List.not_mem_nil,or_false] at hc
  rcases hc with rfl|rfl|rfl|rfl
  ·exact .inl ⟨0,by omega,rfl,rfl⟩
  ·exact .inl ⟨1,by omega,rfl,rfl⟩
  ·exact .inl ⟨2,by omega,rfl,rfl⟩
  ·exact .inl ⟨3,by omega,rfl,rfl⟩
 ·exact .inr (ixB.2 hc)
theorem fmtL_in {p:Int × DP} (h:okL p):32 ∈ fmtL p/\bfr 32 (fmtL p)=[ltr p.1]/\aft 32 (fmtL p)=fmtP p.2/\32 ∉ fmtP p.2:=by
 rw [fmtL_ok h]
 exact ⟨List.mem_cons_of_mem _ List.mem_cons_self,bfr_app (x:=[ltr p.1]) (ltr_no h.1),aft_app (x:=[ltr p.1]) (ltr_no h.1),fmtP_no h.2 (by decide) (by decide) (by decide) (by decide)⟩
theorem fmtL_inj {p q:Int × DP} (h:okL p) (h':okL q) (e:fmtL p=fmtL q):p=q:=by
 obtain ⟨_,a1,a2,_⟩:=fmtL_in h
 obtain ⟨_,b1,b2,_⟩:=fmtL_in h'
 rw [e] at a1 a2
 have e1:ltr p.1=ltr q.1:=(List.cons.inj (a1.symm.trans b1)).1
 exact Prod.ext (by rw [<-ltr_ix h.1,<-ltr_ix h'.1,e1]) (fmtP_inj h.2 h'.2 (a2.symm.trans b2))
theorem pP_some {p:DP} (h:okPt p=true):pP (fmtP p)=some p:=unF_some (fun _ _=>fmtP_inj) h rfl
theorem pL_no1 {s:List UInt8} (hm:32 ∉ s):pL s=none:=unF_none fun p hp e=>hm (by rw [<-e]; exact (fmtL_in hp).1)
theorem pL_no2 {s:List UInt8} (h:(bfr 32 s).length ≠ 1):pL s=none:=unF_none fun p hp e=>h (by rw [<-e,(fmtL_in hp).2.1]; rfl)
theorem pL_no3 {s:List UInt8} (h:pP (aft 32 s)=none):pL s=none:=unF_none fun p hp e=>by
 rw [<-e,(fmtL_in hp).2.2.1,pP_some hp.2] at h; cases h
theorem pL_no4 {s:List UInt8} {c:UInt8} (hb:bfr 32 s=[c]) (h:Lib.indexByte [101,110,119,115] c=-1):pL s=none:=unF_none fun p hp e=>by
 rw [<-e,(fmtL_in hp).2.1] at hb
 rw [<-(List.cons.inj hb).1,ltr_ix hp.1] at h
 have:=hp.1.1
 omega
theorem pL_yes {s:List UInt8} {c:UInt8} {h:Int} {q:DP} (hm:32 ∈ s) (hb:bfr 32 s=[c]) (hh:0<=h/\h<=3) (hc:ltr h=c) (hq:pP (aft 32 s)=some q):pL s=some (h,q):=by
 obtain ⟨q1,q2⟩:=unF_eq hq
 have ho:okL (h,q):=⟨hh,q1⟩
 refine unF_some (fun _ _=>fmtL_inj) ho ?_
 rw [fmtL_ok ho,hc,q2]
 have:=bfr_aft hm
 rw [hb] at this
 exact this.symm
theorem parsePoint_none {s:List UInt8} (hl:s.length<=1048576) (h:pP s=none):FnT Tryz.prog 61 [⟨.str,bs s⟩] [⟨tPoint,(((false,[]),[]),((false,[]),[]))⟩,⟨.bool,false⟩]:=by
 have:=parsePoint_fn s hl
 rw [h] at this
 exact this
theorem parsePoint_some {s:List UInt8} {q:DP} (hl:s.length<=1048576) (h:pP s=some q):FnT Tryz.prog 61 [⟨.str,bs s⟩] [⟨tPoint,q⟩,⟨.bool,true⟩]:=by
 have:=parsePoint_fn s hl
 rw [h] at this
 exact this
theorem headingOf_fn (s:List UInt8):∃ h:Int,(s.length ≠ 1->h=-1)/\(∀ c,s=[c]->h=Lib.indexByte [101,110,119,115] c)/\Fn Tryz.prog 60 [⟨.str,bs s⟩] false [⟨.int,h⟩]:=by
 by_cases h1:s.length=1
 ·obtain ⟨c,rfl⟩:=List.length_eq_one_iff.1 h1
  exact ⟨_,fun h=>absurd h1 h,fun d e=>by rw [(List.cons.inj e).1],headingOf_one c⟩
 ·exact ⟨-1,fun _=>rfl,fun c e=>absurd (by rw [e]; rfl) h1,headingOf_not s h1⟩
theorem parsePlacement_fn (s:List UInt8) (hl:s.length<=1048576):FnT Tryz.prog 26 [⟨.str,bs s⟩] [⟨tStep,(pL s).getD (0,(((false,[]),[]),((false,[]),[])))⟩,⟨.bool,(pL s).isSome⟩]:=by
 have l2:(aft 32 s).length<=1048576:=Nat.le_trans (aft_len 32 s) hl
 by_cases hm:32 ∈ s
 ·obtain ⟨h,g1,g2,c1⟩:=headingOf_fn (bfr 32 s)
  cases hq:pP (aft 32 s) with
  | none =>
   rw [pL_no3 hq]
   refine fnT_enter tabOK mixes Tryz.func26 rfl rfl _ Tryz.ntmps26 _ Tryz.results26 (by simp) fun hwf=>?_
   try simp (maxSteps:=9^9) only[go_sem]
   repeat refine AI ?_
   refine cw (cut_some s 32 hm hl) ?_
   try simp (maxSteps:=9^9) only[go_sem]
   repeat refine AI ?_
   refine cw c1 ?_
   try simp (maxSteps:=9^9) only[go_sem]
   repeat refine AI ?_
   refine CallW.to (parsePoint_none l2 hq) ?_
   try simp (maxSteps:=9^9) only[go_sem]
   refine GuardW_decf (fun h=>?_) (fun h=>?_)
   ·try simp (maxSteps:=9^9) only[go_sem]
   ·try simp (maxSteps:=9^9) only[go_sem]
  | some q =>
   by_cases h1:(bfr 32 s).length=1
   ·obtain ⟨c,hc⟩:=List.length_eq_one_iff.1 h1
    have g3:=g2 c hc
    rcases ix_ltr c with ⟨k,k1,k2,k3⟩|k3
    ·rw [pL_yes hm hc k1 k2 hq]
     have g4:¬ h < 0:=by rw [g3,k3]; omega
     have g5:h=k:=g3.trans k3
     refine fnT_enter tabOK mixes Tryz.func26 rfl rfl _ Tryz.ntmps26 _ Tryz.results26 (by simp) fun hwf=>?_
     try simp (maxSteps:=9^9) only[go_sem]
     repeat refine AI ?_
     refine cw (cut_some s 32 hm hl) ?_
     try simp (maxSteps:=9^9) only[go_sem]
     repeat refine AI ?_
     refine cw c1 ?_
     try simp (maxSteps:=9^9) only[go_sem]
     repeat refine AI ?_
     refine CallW.to (parsePoint_some l2 hq) ?_
     try simp (maxSteps:=9^9) only[go_sem]
     refine GuardW_decf (fun _=>?_) (fun h=>absurd h g4)
     try simp (maxSteps:=9^9) only[go_sem]
     exact g5
    ·rw [pL_no4 hc k3]
     have g4:h=-1:=g3.trans k3
     subst g4
     refine fnT_enter tabOK mixes Tryz.func26 rfl rfl _ Tryz.ntmps26 _ Tryz.results26 (by simp) fun hwf=>?_
     try simp (maxSteps:=9^9) only[go_sem]
     repeat refine AI ?_
     refine cw (cut_some s 32 hm hl) ?_
     try simp (maxSteps:=9^9) only[go_sem]
     repeat refine AI ?_
     refine cw c1 ?_
     try simp (maxSteps:=9^9) only[go_sem]
     repeat refine AI ?_
     refine CallW.to (parsePoint_some l2 hq) ?_
     try simp (maxSteps:=9^9) only[go_sem]
   ·rw [pL_no2 h1]
    have g4:=g1 h1
    subst g4
    refine fnT_enter tabOK mixes Tryz.func26 rfl rfl _ Tryz.ntmps26 _ Tryz.results26 (by simp) fun hwf=>?_
    try simp (maxSteps:=9^9) only[go_sem]
    repeat refine AI ?_
    refine cw (cut_some s 32 hm hl) ?_
    try simp (maxSteps:=9^9) only[go_sem]
    repeat refine AI ?_
    refine cw c1 ?_
    try simp (maxSteps:=9^9) only[go_sem]
    repeat refine AI ?_
    refine CallW.to (parsePoint_some l2 hq) ?_
    try simp (maxSteps:=9^9) only[go_sem]
 ·obtain ⟨h,g1,g2,c1⟩:=headingOf_fn s
  have hq:pP []=none:=pP_no1 (by decide)
  rw [pL_no1 hm]
  refine fnT_enter tabOK mixes Tryz.func26 rfl rfl _ Tryz.ntmps26 _ Tryz.results26 (by simp) fun hwf=>?_
  try simp (maxSteps:=9^9) only[go_sem]
  repeat refine AI ?_
  refine cw (cut_none s 32 hm hl) ?_
  try simp (maxSteps:=9^9) only[go_sem]
  repeat refine AI ?_
  refine cw c1 ?_
  try simp (maxSteps:=9^9) only[go_sem]
  repeat refine AI ?_
  refine CallW.to (parsePoint_none (by decide) hq) ?_
  try simp (maxSteps:=9^9) only[go_sem]
  refine GuardW_decf (fun h=>?_) (fun h=>?_)
  ·try simp (maxSteps:=9^9) only[go_sem]
  ·try simp (maxSteps:=9^9) only[go_sem]
def okS (p:Int × DP):Prop:=(-1<=p.1/\p.1<=1)/\okPt p.2=true
noncomputable def pS (s:List UInt8):Option (Int × DP):=unF okS fmtS s
theorem fmtS_ok {p:Int × DP} (h:okS p):fmtS p=wrd p.1++32 :: fmtP p.2:=if_pos h
theorem wrd_cases {h:Int} (h0:-1<=h/\h<=1):h=-1\/h=0\/h=1:=by omega
theorem wrd_no {h:Int} (h0:-1<=h/\h<=1):(32:UInt8) ∉ wrd h:=by
 rcases wrd_cases h0 with rfl|rfl|rfl<;>decide
def wix (w:List UInt8):Int:=if w=[114,105,103,104,116] then 0 else if w=[109,111,118,101] then 1 else if w=[108,101,102,116] then 2 else -1
theorem wrd_ix {h:Int} (h0:-1<=h/\h<=1):wix (wrd h)=h+1:=by
 rcases wrd_cases h0 with rfl|rfl|rfl<;>rfl
theorem ix_wrd (w:List UInt8):(∃ h:Int,(-1<=h/\h<=1)/\wrd h=w/\wix w=h+1)\/wix w=-1:=by
 by_cases h1:w=[114,105,103,104,116]
 ·exact .inl ⟨-1,by omega,by rw [h1]; rfl,by rw [h1]; rfl⟩
 by_cases h2:w=[109,111,118,101]
 ·exact .inl ⟨0,by omega,by rw [h2]; rfl,by rw [h2]; rfl⟩
 by_cases h3:w=[108,101,102,116]
 ·exact .inl ⟨1,by omega,by rw [h3]; rfl,by rw [h3]; rfl⟩
 exact .inr (by rw [wix,if_neg h1,if_neg h2,if_neg h3])
theorem fmtS_in {p:Int × DP} (h:okS p):32 ∈ fmtS p/\bfr 32 (fmtS p)=wrd p.1/\aft 32 (fmtS p)=fmtP p.2/\32 ∉ fmtP p.2:=by
 rw [fmtS_ok h]
 exact ⟨List.mem_append_right _ List.mem_cons_self,bfr_app (wrd_no h.1),aft_app (wrd_no h.1),fmtP_no h.2 (by decide) (by decide) (by decide) (by decide)⟩
theorem wrd_inj {h k:Int} (h0:-1<=h/\h<=1) (k0:-1<=k/\k<=1) (e:wrd h=wrd k):h=k:=by
 have a:=wrd_ix h0
 have b:=wrd_ix k0
 rw [e] at a
 omega
theorem fmtS_inj {p q:Int × DP} (h:okS p) (h':okS q) (e:fmtS p=fmtS q):p=q:=by
 obtain ⟨_,a1,a2,_⟩:=fmtS_in h
 obtain ⟨_,b1,b2,_⟩:=fmtS_in h'
 rw [e] at a1 a2
 exact Prod.ext (wrd_inj h.1 h'.1 (a1.symm.trans b1)) (fmtP_inj h.2 h'.2 (a2.symm.trans b2))
theorem pS_no1 {s:List UInt8} (hm:32 ∉ s):pS s=none:=unF_none fun p hp e=>hm (by rw [<-e]; exact (fmtS_in hp).1)
theorem pS_no3 {s:List UInt8} (h:pP (aft 32 s)=none):pS s=none:=unF_none fun p hp e=>by
 rw [<-e,(fmtS_in hp).2.2.1,pP_some hp.2] at h; cases h
theorem pS_no4 {s:List UInt8} (h:wix (bfr 32 s)=-1):pS s=none:=unF_none fun p hp e=>by
 rw [<-e,(fmtS_in hp).2.1,wrd_ix hp.1] at h
 have:=hp.1.1
 omega
theorem pS_yes {s:List UInt8} {h:Int} {q:DP} (hm:32 ∈ s) (hh:-1<=h/\h<=1) (hc:wrd h=bfr 32 s) (hq:pP (aft 32 s)=some q):pS s=some (h,q):=by
 obtain ⟨q1,q2⟩:=unF_eq hq
 have ho:okS (h,q):=⟨hh,q1⟩
 refine unF_some (fun _ _=>fmtS_inj) ho ?_
 rw [fmtS_ok ho,hc,q2]
 exact (bfr_aft hm).symm
def wn (k:Nat):List UInt8:=if k=0 then [114,105,103,104,116] else if k=1 then [109,111,118,101] else [108,101,102,116]
theorem nth_wn {k:Nat} (h:k < 3):@nth .str [bs [114,105,103,104,116],bs [109,111,118,101],bs [108,101,102,116]] k=bs (wn k):=by
 obtain rfl|rfl|rfl:k=0\/k=1\/k=2:=by omega
 all_goals rfl
theorem wix_at {w:List UInt8} {k:Nat} (hk:k < 3) (h:∀ j:Nat,j < k->wn j ≠ w) (e:w=wn k):wix w=k:=by
 subst e
 obtain rfl|rfl|rfl:k=0\/k=1\/k=2:=by omega
 all_goals rfl
theorem wix_end {w:List UInt8} (h:∀ j:Nat,j < 3->wn j ≠ w):wix w=-1:=by
 rw [wix,if_neg (fun e=>h 0 (by omega) e.symm),if_neg (fun e=>h 1 (by omega) e.symm),if_neg (fun e=>h 2 (by omega) e.symm)]
theorem wIndex_fn (w:List UInt8):Fn Tryz.prog 64 [⟨.slice .str,[bs [114,105,103,104,116],bs [109,111,118,101],bs [108,101,102,116]]⟩,⟨.str,bs w⟩] false [⟨.int,wix w⟩]:=by
 refine fe Tryz.func64 Tryz.ntmps64 Tryz.results64 fun hwf=>?_
 try simp (maxSteps:=9^9) only[go_sem]
 refine LoopG.intro _ _ _ (fun k:Nat=>⟨[(0,.sl .str [bs [114,105,103,104,116],bs [109,111,118,101],bs [108,101,102,116]]),(1,.sc (.string (bs w))),(7,.sc (.int .i64 3)),(8,.sc (.int .i64 k))],[]⟩) (fun k=>k<=3/\∀ j:Nat,j < k->wn j ≠ w) (fun k=>3 - k) 0 ?_ ⟨by omega,fun j h=>absurd h (by omega)⟩ ?_
 ·exact WK
 ·rintro k ⟨k1,k2⟩
  try simp (maxSteps:=9^9) only[go_sem]
  refine CondW_dec (fun h4=>?_) (fun h4=>?_)
  ·have hk:k < 3:=by omega
   try simp (maxSteps:=9^9) only[go_sem]
   refine ⟨by omega,h4,?_⟩
   rw [nth_wn hk]
   try simp (maxSteps:=9^9) only[go_sem]
   refine CondW_dec (fun he=>?_) (fun he=>?_)
   ·rw [wix_at hk k2 he]
    try simp (maxSteps:=9^9) only[go_sem]
   ·try simp (maxSteps:=9^9) only[go_sem]
    refine ⟨by constructor<;>omega,LoopK.mk (k+1) ?_ ⟨by omega,fun j hj e=>?_⟩ (by omega)⟩
    ·exact WK
    ·by_cases hjk:j=k
     ·subst hjk; exact he e.symm
     ·exact k2 j (by omega) e
  ·obtain rfl:k=3:=by omega
   rw [wix_end k2]
   try simp (maxSteps:=9^9) only[go_sem]
theorem parseStep_fn (s:List UInt8) (hl:s.length<=1048576):FnT Tryz.prog 30 [⟨.str,bs s⟩] [⟨tStep,(pS s).getD (0,(((false,[]),[]),((false,[]),[])))⟩,⟨.bool,(pS s).isSome⟩]:=by
 have l2:(aft 32 s).length<=1048576:=Nat.le_trans (aft_len 32 s) hl
 by_cases hm:32 ∈ s
 ·have c1:=wIndex_fn (bfr 32 s)
  cases hq:pP (aft 32 s) with
  | none =>
   rw [pS_no3 hq]
   refine fnT_enter tabOK mixes Tryz.func30 rfl rfl _ Tryz.ntmps30 _ Tryz.results30 (by simp) fun hwf=>?_
   try simp (maxSteps:=9^9) only[go_sem]
   repeat refine AI ?_
   refine cw (cut_some s 32 hm hl) ?_
   try simp (maxSteps:=9^9) only[go_sem]
   repeat refine AI ?_
   refine cw stepWords_fn ?_
   try simp (maxSteps:=9^9) only[go_sem]
   repeat refine AI ?_
   refine cw c1 ?_
   try simp (maxSteps:=9^9) only[go_sem]
   repeat refine AI ?_
   refine CallW.to (parsePoint_none l2 hq) ?_
   try simp (maxSteps:=9^9) only[go_sem]
   refine GuardW_decf (fun h=>?_) (fun h=>?_)
   ·try simp (maxSteps:=9^9) only[go_sem]
   ·try simp (maxSteps:=9^9) only[go_sem]
  | some q =>
   rcases ix_wrd (bfr 32 s) with ⟨k,k1,k2,k3⟩|k3
   ·rw [pS_yes hm k1 k2 hq]
    rw [k3] at c1
    have g4:¬ k+1 < 0:=by omega
    refine fnT_enter tabOK mixes Tryz.func30 rfl rfl _ Tryz.ntmps30 _ Tryz.results30 (by simp) fun hwf=>?_
    try simp (maxSteps:=9^9) only[go_sem]
    repeat refine AI ?_
    refine cw (cut_some s 32 hm hl) ?_
    try simp (maxSteps:=9^9) only[go_sem]
    repeat refine AI ?_
    refine cw stepWords_fn ?_
    try simp (maxSteps:=9^9) only[go_sem]
    repeat refine AI ?_
    refine cw c1 ?_
    try simp (maxSteps:=9^9) only[go_sem]
    repeat refine AI ?_
    refine CallW.to (parsePoint_some l2 hq) ?_
    try simp (maxSteps:=9^9) only[go_sem]
    refine GuardW_decf (fun _=>?_) (fun h=>absurd h g4)
    try simp (maxSteps:=9^9) only[go_sem]
    exact ⟨by constructor<;>omega,by omega⟩
   ·rw [pS_no4 k3]
    rw [k3] at c1
    refine fnT_enter tabOK mixes Tryz.func30 rfl rfl _ Tryz.ntmps30 _ Tryz.results30 (by simp) fun hwf=>?_
    try simp (maxSteps:=9^9) only[go_sem]
    repeat refine AI ?_
    refine cw (cut_some s 32 hm hl) ?_
    try simp (maxSteps:=9^9) only[go_sem]
    repeat refine AI ?_
    refine cw stepWords_fn ?_
    try simp (maxSteps:=9^9) only[go_sem]
    repeat refine AI ?_
    refine cw c1 ?_
    try simp (maxSteps:=9^9) only[go_sem]
    repeat refine AI ?_
    refine CallW.to (parsePoint_some l2 hq) ?_
    try simp (maxSteps:=9^9) only[go_sem]
 ·have c1:=wIndex_fn s
  have hq:pP []=none:=pP_no1 (by decide)
  rw [pS_no1 hm]
  refine fnT_enter tabOK mixes Tryz.func30 rfl rfl _ Tryz.ntmps30 _ Tryz.results30 (by simp) fun hwf=>?_
  try simp (maxSteps:=9^9) only[go_sem]
  repeat refine AI ?_
  refine cw (cut_none s 32 hm hl) ?_
  try simp (maxSteps:=9^9) only[go_sem]
  repeat refine AI ?_
  refine cw stepWords_fn ?_
  try simp (maxSteps:=9^9) only[go_sem]
  repeat refine AI ?_
  refine cw c1 ?_
  try simp (maxSteps:=9^9) only[go_sem]
  repeat refine AI ?_
  refine CallW.to (parsePoint_none (by decide) hq) ?_
  try simp (maxSteps:=9^9) only[go_sem]
  refine GuardW_decf (fun h=>?_) (fun h=>?_)
  ·try simp (maxSteps:=9^9) only[go_sem]
  ·try simp (maxSteps:=9^9) only[go_sem]
end Go.Proofs.YtaeckjmkjhffnaaGreatDoor.DW

namespace Go.Proofs.YtaeckjmkjhffnaaGreatDoor.DW
open Go.RowKit Go.Shelf
def cntL_ren:Go.Shelf.Ren:=⟨fun|138=>155|143=>89|195=>175|217=>143|218=>177|219=>120|224=>145|225=>144|266=>168|267=>146|314=>169|n=>n,fun|0=>0|3=>3|4=>4|5=>5|9=>9|46=>151|51=>173|146=>174|n=>n,fun|1=>0|n=>n⟩
theorem cntL:Lays.n138 Tryz.prog cntL_ren:={
 mixed:=by kernel_rfl
 f138:=Tryz.func155.trans (congrArg some (by kernel_rfl))
 f143:=Tryz.func89.trans (congrArg some (by kernel_rfl))
 f195:=Tryz.func175.trans (congrArg some (by kernel_rfl))
 f217:=Tryz.func143.trans (congrArg some (by kernel_rfl))
 f218:=Tryz.func177.trans (congrArg some (by kernel_rfl))
 f219:=Tryz.func120.trans (congrArg some (by kernel_rfl))
 f224:=Tryz.func145.trans (congrArg some (by kernel_rfl))
 f225:=Tryz.func144.trans (congrArg some (by kernel_rfl))
 f266:=Tryz.func168.trans (congrArg some (by kernel_rfl))
 f267:=Tryz.func146.trans (congrArg some (by kernel_rfl))
 f314:=Tryz.func169.trans (congrArg some (by kernel_rfl))
 t0:=Tryz.underlying0
 a0:=Tryz.isAgg0
 z0:=Tryz.sizeOf0
 v0:=Tryz.zeroValue0
 t3:=Tryz.underlying3
 a3:=Tryz.isAgg3
 z3:=Tryz.sizeOf3
 v3:=Tryz.zeroValue3
 t4:=Tryz.underlying4
 a4:=Tryz.isAgg4
 z4:=Tryz.sizeOf4
 v4:=Tryz.zeroValue4
 t5:=Tryz.underlying5
 a5:=Tryz.isAgg5
 z5:=Tryz.sizeOf5
 v5:=Tryz.zeroValue5
 t9:=Tryz.underlying9
 a9:=Tryz.isAgg9
 z9:=Tryz.sizeOf9
 v9:=Tryz.zeroValue9
 t46:=Tryz.underlying151
 a46:=Tryz.isAgg151
 z46:=Tryz.sizeOf151
 v46:=Tryz.zeroValue151
 t51:=Tryz.underlying173
 a51:=Tryz.isAgg173
 z51:=Tryz.sizeOf173
 v51:=Tryz.zeroValue173
 t146:=Tryz.underlying174
 a146:=Tryz.isAgg174
 z146:=Tryz.sizeOf174
 v146:=Tryz.zeroValue174
 g1:=by kernel_rfl }
theorem spl_count (c:UInt8):∀ s:List UInt8,(spl c s).length=Lib.countByte s c+1
 | []=>rfl
 | b :: l=>by
  have:=spl_count c l
  rw [Lib.countByte] at this ⊢
  by_cases hb:b=c
  ·rw [spl,if_pos hb,List.length_cons,this,List.count_cons,if_pos (by rw [hb]; exact beq_self_eq_true c)]
  ·obtain ⟨r,e⟩:=spl_cons c l
   rw [e,List.length_cons] at this
   rw [spl,if_neg hb,e,List.count_cons,if_neg (by rw [beq_iff_eq]; exact hb)]
   dsimp only
   rw [List.length_cons]; omega
theorem count_fn (s:List UInt8) (c:UInt8) (hl:s.length<=1048576):Fn Tryz.prog 155 [⟨.str,bs s⟩,⟨.str,bs [c]⟩] false [⟨.int,(Lib.countByte s c:Int)⟩]:=by
 refine ⟨enters_of Tryz.func155 (by kernel_rfl) rfl,fun w vs S hg ha=>?_⟩
 match vs,ha with
 | [v,u],⟨⟨fp,hd,_⟩,⟨fp2,hd2,_⟩,_⟩ =>
  rw [(rep_str hd).1,(rep_str hd2).1]
  refine (Any.strings_Count_one cntL (bs s) c w).mono ?_
  rintro e w' ⟨rfl,rfl⟩
  rw [bs_list]
  have h1:=spl_count c s
  have h2:=spl_len c s
  have hI:I64 (Lib.countByte s c):=by constructor<;>omega
  exact ⟨Below.refl _ _,_,rfl,[],⟨[.int .i64 (Lib.countByte s c)],.inr ⟨rfl,rfl⟩,rfl,rfl,hI⟩,fun _=>ownFp_nil _ _,fun b hb=>by cases hb⟩
theorem spl_two {c:UInt8} {r:List UInt8} (h:2<=(spl c r).length):c ∈ r:=by
 by_cases hm:c ∈ r
 ·exact hm
 ·rw [spl_no hm,List.length_singleton] at h; omega
theorem set_at {l:List ByteArray} {i m:Nat} {x e:ByteArray} (h:l.length=i):(l++List.replicate (m+1) e).set i x=(l++[x])++List.replicate m e:=by
 subst h
 rw [List.set_append_right _ _ (Nat.le_refl _),Nat.sub_self,List.replicate_succ,List.set_cons_zero,List.append_assoc]; rfl
theorem genSplit_fn (s:List UInt8) (c:UInt8) (hl:s.length<=1048576):Fn Tryz.prog 130 [⟨.str,bs s⟩,⟨.str,bs [c]⟩,⟨.int,(0:Int)⟩,⟨.int,(-1:Int)⟩] true [⟨.slice .str,(spl c s).map bs⟩]:=by
 have h1:=spl_count c s
 have h2:=spl_len c s
 have c1:=count_fn s c hl
 generalize hn:Lib.countByte s c=n at c1 h1
 refine fe Tryz.func130 Tryz.ntmps130 Tryz.results130 fun hwf=>?_
 try simp (maxSteps:=9^9) only[go_sem]
 repeat refine AI ?_
 refine cw c1 ?_
 try simp (maxSteps:=9^9) only[go_sem]
 have hmin:min ((n:Int)+1) ((s.length:Int)+1)=((n+1:Nat):Int):=by omega
 have hn1:((n+1:Nat):Int) - 1=(n:Int):=by omega
 simp only [hmin,hn1,Int.toNat_natCast]
 refine ⟨i64_nat (by omega) (by omega),i64_nat (by omega) (by omega),by omega,Int.le_refl _,by omega,i64_nat (by omega) (by omega),?_⟩
 refine LoopG.intro _ _ _ (fun y:Nat × List UInt8 × List (List UInt8)=>⟨[(0,.sc (.string (bs y.2.1))),(1,.sc (.string (bs [c]))),(2,.sc (.int .i64 0)),(3,.sc (.int .i64 n)),(9,.row 9 0),(10,.sc (.int .i64 y.1))],[(9,.row 9 .str 0 true (y.2.2.map bs++List.replicate (n+1 - y.1) (bs [])))]⟩) (fun y=>y.1<=n/\y.2.2.length=y.1/\(spl c y.2.1).length=n+1 - y.1/\y.2.2++spl c y.2.1=spl c s/\y.2.1.length<=s.length) (fun y=>n - y.1) (0,s,[]) ?_ ⟨Nat.zero_le _,rfl,by dsimp only; omega,rfl,Nat.le_refl _⟩ ?_
 ·refine Wk.mk [(9,0)] ?_
  try simp (maxSteps:=9^9) only[go_sem]
  try (and_intros<;>first|rfl|omega|exact ⟨_,rfl⟩)
 ·rintro ⟨i,r,o⟩ ⟨k1,k2,k3,k4,k5⟩
  dsimp only at k1 k2 k3 k4 k5
  try simp (maxSteps:=9^9) only[go_sem]
  refine CondW_dec (fun h4=>?_) (fun h4=>?_)
  ·have hm:c ∈ r:=spl_two (by omega)
   have c2:=sIndex_fn r c (by omega)
   rw [ixB.1 hm] at c2
   obtain ⟨b1,h2b⟩:=(bfr_len c r).2 hm
   have b3:¬ ((bfr c r).length:Int) < 0:=by omega
   try simp (maxSteps:=9^9) only[go_sem]
   repeat refine AI ?_
   refine cw c2 ?_
   try simp (maxSteps:=9^9) only[go_sem]
   refine CondW_dec (fun h=>absurd h b3) (fun _=>?_)
   try simp (maxSteps:=9^9) only[go_sem]
   have hol:(o.map bs).length=i:=by rw [List.length_map]; exact k2
   refine ⟨i64_nat (by omega) (by omega),by omega,by omega,by omega,by omega,by omega,i64_nat (by omega) (by omega),by omega,by omega,Int.le_refl _,i64_nat (by omega) (by omega),?_⟩
   refine LoopK.mk (i+1,aft c r,o++[bfr c r]) ?_ ?_ ?_
   ·obtain ⟨m,hm⟩:∃ m,n+1 - i=m+1:=⟨n - i,by omega⟩
    rw [hm,set_at hol,show n+1 - (i+1)=m by omega]
    refine Wk.mk [] ?_
    try simp (maxSteps:=9^9) only[go_sem]
    try (and_intros<;>first|rfl|omega|exact ⟨_,rfl⟩)
    refine ⟨⟨by rw [List.take_length]; rfl,by omega⟩,?_⟩
    rw [List.map_append,show ((bfr c r).length+0:Int).toNat=(bfr c r).length by omega,h2b]; rfl
   ·rw [spl_in hm] at k3 k4
    rw [List.length_cons] at k3
    refine ⟨by dsimp only; omega,by dsimp only; rw [List.length_append,k2]; rfl,by dsimp only; omega,by dsimp only; rw [List.append_assoc]; exact k4,Nat.le_trans (aft_len c r) k5⟩
   ·dsimp only; omega
  ·obtain rfl:i=n:=by omega
   have hol:(o.map bs).length=i:=by rw [List.length_map]; exact k2
   have hnr:c ∉ r:=fun hm=>by
    rw [spl_in hm,List.length_cons] at k3
    obtain ⟨q,e⟩:=spl_cons c (aft c r)
    rw [e,List.length_cons] at k3
    omega
   try simp (maxSteps:=9^9) only[go_sem]
   refine ⟨by omega,by omega,by omega,i64_nat (by omega) (by omega),by omega,by omega,?_⟩
   refine SlcW.cut (e:=9) (o:=true) ⟨rfl,rfl,?_⟩
   try simp (maxSteps:=9^9) only[go_sem]
   rw [show i+1 - i=0+1 by omega,set_at hol,List.replicate_zero,List.append_nil,<-k4,spl_no hnr,List.map_append]
   exact List.take_of_length_le (by rw [List.length_append,hol]; simp)
theorem split_fn (s:List UInt8) (c:UInt8) (hl:s.length<=1048576):Fn Tryz.prog 98 [⟨.str,bs s⟩,⟨.str,bs [c]⟩] true [⟨.slice .str,(spl c s).map bs⟩]:=by
 refine fe Tryz.func98 Tryz.ntmps98 Tryz.results98 fun hwf=>?_
 try simp (maxSteps:=9^9) only[go_sem]
 repeat refine AI ?_
 refine cw (genSplit_fn s c hl) ?_
 try simp (maxSteps:=9^9) only[go_sem]
theorem spl_last (c:UInt8) (s:List UInt8):∃ o z,spl c s=o++[z]:=by
 rcases List.eq_nil_or_concat (spl c s) with h|⟨o,z,h⟩
 ·obtain ⟨r,e⟩:=spl_cons c s
  rw [e] at h; cases h
 ·exact ⟨o,z,by rw [h,List.concat_eq_append]⟩
def lns (s:List UInt8):List (List UInt8):=if (spl 10 s).getLast? = some [] then (spl 10 s).dropLast else spl 10 s
theorem lns_nil {s:List UInt8} {o:List (List UInt8)} (h:spl 10 s=o++[[]]):lns s=o:=by
 rw [lns,h,if_pos List.getLast?_concat,List.dropLast_concat]
theorem lns_ne {s:List UInt8} {o:List (List UInt8)} {z:List UInt8} (h:spl 10 s=o++[z]) (hz:z ≠ []):lns s=o++[z]:=by
 rw [lns,h,if_neg (by rw [List.getLast?_concat]; exact fun e=>hz (Option.some.inj e))]
theorem lns_len (s:List UInt8):(lns s).length<=s.length+1:=by
 have h:=spl_len 10 s
 unfold lns
 split
 ·rw [List.length_dropLast]; omega
 ·exact h
theorem nth_last {o:List (List UInt8)} {z:List UInt8}:@nth .str (List.map bs (o++[z])) o.length=bs z:=by
 rw [nth,List.map_append,List.getD_eq_getElem?_getD,List.getElem?_append_right (by rw [List.length_map]; exact Nat.le_refl _),List.length_map,Nat.sub_self]; rfl
theorem splitLines_fn (s:List UInt8) (hl:s.length<=1048576):Fn Tryz.prog 70 [⟨.str,bs s⟩] false [⟨.slice .str,(lns s).map bs⟩]:=by
 have c1:=split_fn s 10 hl
 obtain ⟨o,z,e⟩:=spl_last 10 s
 have hlen:=spl_len 10 s
 rw [e] at c1 hlen
 rw [List.length_append,List.length_singleton] at hlen
 have hnt:=@nth_last o z
 have hl2:((List.map bs (o++[z])).length:Int) - 1=(o.length:Int):=by rw [List.length_map,List.length_append,List.length_singleton]; omega
 have hl3:(List.map bs (o++[z])).length=o.length+1:=by rw [List.length_map,List.length_append,List.length_singleton]
 generalize hy:List.map bs (o++[z])=y at c1 hnt hl2 hl3
 refine fe Tryz.func70 Tryz.ntmps70 Tryz.results70 fun hwf=>?_
 try simp (maxSteps:=9^9) only[go_sem]
 repeat refine AI ?_
 refine cw c1 ?_
 try simp (maxSteps:=9^9) only[go_sem]
 have hk:((y.length:Int) - 1).toNat=o.length:=by omega
 simp only [hk,hnt]
 try simp (maxSteps:=9^9) only[go_sem]
 refine ⟨i64_nat (by omega) (by omega),by omega,by omega,CondW_dec (fun hz=>?_) (fun hz=>?_)⟩
 ·rw [lns_nil (by rw [e,hz])]
  try simp (maxSteps:=9^9) only[go_sem]
  refine ⟨by omega,by omega,SlcW.keep ?_⟩
  try simp (maxSteps:=9^9) only[go_sem]
  rw [hk,<-hy,List.map_append]
  exact List.take_left' (by rw [List.length_map])
 ·rw [lns_ne e hz]
  try simp (maxSteps:=9^9) only[go_sem]
  exact hy.symm
theorem hasSuffixL_fn (u:List UInt8) (b:UInt8) (hl:(u++[b]).length<=1048576):Fn Tryz.prog 97 [⟨.str,bs (u++[b])⟩,⟨.str,bs [10]⟩] false [⟨.bool,decide (b=10)⟩]:=by
 have h1:(u++[b]).length=u.length+1:=by rw [List.length_append]; rfl
 have h2:(1:Int)<=((u++[b]).length:Int):=by omega
 have hd:List.drop u.length (List.take (u++[b]).length (u++[b]))=[b]:=by rw [List.take_length,List.drop_left]
 generalize hs:u++[b]=s at hl h1 h2 hd
 refine fe Tryz.func97 Tryz.ntmps97 Tryz.results97 fun hwf=>?_
 try simp (maxSteps:=9^9) only[go_sem]
 refine GuardW_dec (fun _=>?_) (fun h=>absurd h2 h)
 try simp (maxSteps:=9^9) only[go_sem]
 refine ⟨i64_nat (by omega) (by omega),by omega,by omega,Int.le_refl _,?_⟩
 rw [show ((s.length:Int) - ((1:Nat):Int)).toNat=u.length by omega,hd]
 by_cases hb:b=10
 ·rw [hb,decide_eq_true rfl,decide_eq_true rfl]
 ·rw [decide_eq_false hb,decide_eq_false fun h=>hb (List.cons.inj h).1]
theorem hasSuffix_fn (u:List UInt8) (b:UInt8) (hl:(u++[b]).length<=1048576):Fn Tryz.prog 69 [⟨.str,bs (u++[b])⟩,⟨.str,bs [10]⟩] false [⟨.bool,decide (b=10)⟩]:=by
 refine fe Tryz.func69 Tryz.ntmps69 Tryz.results69 fun hwf=>?_
 try simp (maxSteps:=9^9) only[go_sem]
 repeat refine AI ?_
 refine cw (hasSuffixL_fn u b hl) ?_
 try simp (maxSteps:=9^9) only[go_sem]
theorem formatStep_at (x:tStep.den):Fn Tryz.prog 18 [⟨tStep,x⟩] false [⟨.str,bs (fmtS x)⟩]:=by
 obtain ⟨h,q⟩:=x
 exact formatStep_fn h q
theorem fmtS_len (x:tStep.den):(fmtS x).length<=2200:=by
 obtain ⟨h,q⟩:=x
 by_cases hc:(-1<=h/\h<=1)/\okPt q=true
 ·rw [show fmtS (h,q)=wrd h++32 :: fmtP q from if_pos hc,List.length_append,List.length_cons]
  have:=fmtP_len hc.2
  have:=wrd_len h
  omega
 ·rw [show fmtS (h,q)=[] from if_neg hc]; simp
noncomputable def linesM (l:List tStep.den):Nat->List UInt8
 | 0=>[]
 | k+1=>linesM l k++(fmtS (nth (t:=tStep) l k)++[10])
theorem linesM_len (l:List tStep.den):∀ k,(linesM l k).length<=2201 * k
 | 0=>by simp [linesM]
 | k+1=>by
  have:=linesM_len l k
  have:=fmtS_len (nth (t:=tStep) l k)
  simp only [linesM,List.length_append,List.length_cons,List.length_nil]; omega
open Classical in
noncomputable def fmtM (l:List tStep.den):List UInt8:=if 60 < l.length then [] else if ∃ i,i < l.length/\fmtS (nth (t:=tStep) l i)=[] then [] else linesM l l.length
theorem steps_rep {w:World} {v:Value} {l:List tStep.den} {fp:List Nat} (h:DRep w v ⟨.slice tStep,l⟩ fp):∃ ad c,v=.slice ad l.length c/\l.length<=c/\c<=maxLen/\(l.length=0\/∃ b off,ad=some ⟨b,off,none⟩/\b < w.heap.size/\∀ i,i < l.length->∃ cs f,tStep.rp.rep w cs (nth (t:=tStep) l i) f/\∀ j u,cs[j]? = some u->w.cell? ⟨b,off+i * 7+j,none⟩=some u):=by
 obtain ⟨cs,hp,ad,c,e1,h1,h2,h3⟩:=h
 have hv:cs=[v]:=by
  rcases hp with ⟨h,_⟩|⟨_,h⟩
  ·cases h
  ·exact h
 rw [hv] at e1
 injection e1 with e1
 refine ⟨ad,c,e1,h1,h2,?_⟩
 rcases h3 with ⟨rfl,_⟩|⟨b,off,fps,hne,hb,_,hel⟩
 ·exact .inl rfl
 ·refine .inr ⟨b,off,hb,?_,fun i hi=>?_⟩
  ·obtain ⟨f,cs,_,hcs,hc⟩:=hel.2 0 _ (List.getElem?_eq_getElem (List.length_pos_iff.2 hne))
   have hl:=tStep.rp.len hcs
   exact World.block_lt_of_cell? _ _ (hc 0 _ (List.getElem?_eq_getElem (by rw [hl]; decide)))
  ·obtain ⟨f,cs,_,hcs,hc⟩:=hel.2 i _ (List.getElem?_eq_getElem hi)
   rw [nth_lt hi]
   exact ⟨cs,f,hcs,hc⟩
set_option maxHeartbeats 8000000 in
theorem formatMotion_fn (l:List tStep.den):Fn Tryz.prog 23 [⟨.slice tStep,l⟩] false [⟨.str,bs (fmtM l)⟩]:=by
 refine ⟨enters_of Tryz.func23 (by kernel_rfl) rfl,fun w vs S hg ha=>?_⟩
 match vs,ha with
 | [v],⟨⟨fp,hd,_⟩,_⟩ =>
  obtain ⟨ad,c,rfl,hc1,hc2,hcell⟩:=steps_rep hd
  clear hd
  by_cases h60:60 < l.length
  ·have e0:fmtM l=[]:=if_pos h60
   rw [e0]
   have hz:(60:Int) < (l.length:Int):=by omega
   go_enter Tryz.func23,Tryz.ntmps23
   go_wp2
   go_ret
   exact ⟨Below.refl _ _,_,rfl,res_str (s:=bs []) (ml (by decide))⟩
  ·have hz:¬ (60:Int) < (l.length:Int):=by omega
   have hb0:=IsB.new w
   have bl0:Below w.heap.size w (w.alloc (.cells #[.pointer none,.slice none 0 0] 86)):=(Below.refl _ w).alloc (Nat.le_refl _) _
   go_enter Tryz.func23,Tryz.ntmps23
   go_wp2
   go_loopw [12] (fun iv wr=>∃ (k:Nat),iv=.int .i64 (k:Int)/\k<=l.length/\IsB w.heap.size (linesM l k) wr/\Below w.heap.size w wr/\∀ i,i < k->fmtS (nth (t:=tStep) l i) ≠ []) (fun iv _=>(l.length - Lib.intOf iv).toNat)
   case atStart=>exact ⟨0,rfl,Nat.zero_le _,hb0,bl0,fun i h=>by omega⟩
   case round =>
    obtain ⟨k,rfl,hk,hIB,hbl,hne⟩:=hrel
    by_cases hkl:k=l.length
    ·subst hkl
     go_wp2_with (go_at_call 56; refine (st_run hIB).mono ?_)
     rintro e w3 ⟨rfl,hb3⟩
     have e0:fmtM l=linesM l l.length:=(if_neg h60).trans (if_neg fun ⟨i,hi,e⟩=>hne i hi e)
     have hl:=linesM_len l l.length
     go_wp2
     go_ret
     rw [e0]
     exact ⟨hbl.trans hb3,_,rfl,res_str (s:=bs (linesM l l.length)) (by rw [bs_size]; exact ml (by omega))⟩
    ·rcases hcell with h0|⟨b,off,rfl,hB,hel⟩
     ·omega
     obtain ⟨cs,f,hrep,hc⟩:=hel k (by omega)
     obtain ⟨c0,c1,c2,c3,c4,c5,c6,rfl⟩:=list7 (tStep.rp.len hrep)
     have o0:=tStep.rp.one hrep c0 (by simp)
     have o1:=tStep.rp.one hrep c1 (by simp)
     have o2:=tStep.rp.one hrep c2 (by simp)
     have o3:=tStep.rp.one hrep c3 (by simp)
     have o4:=tStep.rp.one hrep c4 (by simp)
     have o5:=tStep.rp.one hrep c5 (by simp)
     have o6:=tStep.rp.one hrep c6 (by simp)
     have g0:wr.cell? ⟨b,off+k * 7,none⟩=some c0:=(hbl.cell (p:=⟨b,_,none⟩) hB).trans (hc 0 _ rfl)
     have g1:wr.cell? ⟨b,off+k * 7+1,none⟩=some c1:=(hbl.cell (p:=⟨b,_,none⟩) hB).trans (hc 1 _ rfl)
     have g2:wr.cell? ⟨b,off+k * 7+2,none⟩=some c2:=(hbl.cell (p:=⟨b,_,none⟩) hB).trans (hc 2 _ rfl)
     have g3:wr.cell? ⟨b,off+k * 7+3,none⟩=some c3:=(hbl.cell (p:=⟨b,_,none⟩) hB).trans (hc 3 _ rfl)
     have g4:wr.cell? ⟨b,off+k * 7+4,none⟩=some c4:=(hbl.cell (p:=⟨b,_,none⟩) hB).trans (hc 4 _ rfl)
     have g5:wr.cell? ⟨b,off+k * 7+5,none⟩=some c5:=(hbl.cell (p:=⟨b,_,none⟩) hB).trans (hc 5 _ rfl)
     have g6:wr.cell? ⟨b,off+k * 7+6,none⟩=some c6:=(hbl.cell (p:=⟨b,_,none⟩) hB).trans (hc 6 _ rfl)
     have hk0:(0:Int)<=(k:Int):=by omega
     have hkn:(k:Int) < (l.length:Int):=by omega
     clear hc hel
     have ba:Below wr.heap.size wr (wr.alloc (.cells #[c0,c1,c2,c3,c4,c5,c6] 48)):=(Below.refl _ wr).alloc (Nat.le_refl _) _
     have bl1:=hbl.trans (ba.mono hbl.size)
     have hI1:=hIB.up ba
     have hrep1:=tStep.rp.frame hrep (w':=wr.alloc (.cells #[c0,c1,c2,c3,c4,c5,c6] 48)) (fun b hb=>bl1.block b (tStep.rp.lt hrep b hb))
     have hll:=linesM_len l k
     have hls:=fmtS_len (nth (t:=tStep) l k)
     go_wp2_with (go_at_call 18; refine (Fn.str (vs:=[.agg #[c0,c1,c2,c3,c4,c5,c6]]) (formatStep_at (nth (t:=tStep) l k)) ⟨Arg.agg (t:=tStep) (cs:=[c0,c1,c2,c3,c4,c5,c6]) rfl ⟨f,hrep1⟩,trivial⟩ (hg.up bl1)).mono ?_)
     rintro e w3 ⟨rfl,hb3⟩
     have bl3:=bl1.trans (hb3.mono bl1.size)
     have hI3:=hI1.up hb3
     have hem:fmtS (nth (t:=tStep) l k)=[]->fmtM l=[]:=fun h5=>(if_neg h60).trans (if_pos ⟨k,by omega,h5⟩)
     generalize hT:fmtS (nth (t:=tStep) l k)=T at hls hem ⊢
     clear g0 g1 g2 g3 g4 g5 g6 o0 o1 o2 o3 o4 o5 o6 hrep hrep1
     by_cases h5:T=[]
     ·subst h5
      have he0:=hem rfl
      clear hem
      have hid:Hid (fmtM l=[]):=he0
      clear he0
      go_wp2
      go_ret
      rw [hid.out]
      exact ⟨bl3,_,rfl,res_str (s:=bs []) (ml (by decide))⟩
     ·go_wp2_with (go_at_call 55; refine (wr_run hI3 (T++[10]) (by rw [List.length_append]; simp only [List.length_cons,List.length_nil]; omega)).mono ?_)
      rintro e w5 ⟨rfl,hB5,hb5⟩
      have bl5:=bl3.trans hb5
      go_wp2
      refine ⟨⟨k+1,by simp only [Int.natCast_add,Int.cast_ofNat_Int],by omega,by rw [linesM,hT]; exact hB5,bl5,fun i hi=>?_⟩,by simp only [Lib.intOf_int]; omega⟩
      by_cases he:i=k
      ·rw [he,hT]; exact h5
      ·exact hne i (by omega)
def okM (l:List (Int × DP)):Prop:=l.length<=60/\∀ x ∈ l,okS x
noncomputable def pM (s:List UInt8):Option (List (Int × DP)):=unF okM fmtM s
theorem fmtS_nl {p:Int × DP} (h:okS p):(10:UInt8) ∉ fmtS p:=by
 rw [fmtS_ok h]
 intro hm
 rcases List.mem_append.1 hm with h1|h1
 ·rcases wrd_cases h.1 with e|e|e<;>rw [e] at h1<;>revert h1<;>decide
 ·rcases List.mem_cons.1 h1 with h2|h2
  ·revert h2; decide
  ·exact fmtP_no h.2 (c:=10) (by decide) (by decide) (by decide) (by decide) h2
theorem fmtS_ne {p:Int × DP} (h:okS p):fmtS p ≠ []:=by
 rw [fmtS_ok h]
 intro e
 cases (List.append_eq_nil_iff.1 e).2
def cat (w:List (List UInt8)):List UInt8:=w.flatMap (·++[10])
theorem cat_app (a b:List (List UInt8)):cat (a++b)=cat a++cat b:=List.flatMap_append
theorem linesM_cat (l:List (Int × DP)):∀ k,k<=l.length->linesM l k=cat ((l.take k).map fmtS)
 | 0,_=>rfl
 | k+1,h=>by
  have hk:k < l.length:=h
  rw [linesM,linesM_cat l k (by omega),<-List.take_append_getElem hk,List.map_append,cat_app]
  congr 1
  show fmtS (nth (t:=tStep) l k)++[10]=(fmtS l[k]++[10])++[]
  rw [List.append_nil,nth,List.getD_eq_getElem?_getD,List.getElem?_eq_getElem hk]; rfl
theorem fmtM_ok {l:List (Int × DP)} (h:okM l):fmtM l=cat (l.map fmtS):=by
 have h1:¬ 60 < l.length:=Nat.not_lt.2 h.1
 have h2:¬ ∃ i,i < l.length/\fmtS (nth (t:=tStep) l i)=[]:=fun ⟨i,hi,e⟩=>by
  rw [nth,List.getD_eq_getElem?_getD,List.getElem?_eq_getElem hi] at e
  exact fmtS_ne (h.2 _ (List.getElem_mem hi)) e
 rw [fmtM,if_neg h1,if_neg h2,linesM_cat l _ (Nat.le_refl _),List.take_length]
theorem spl_cat {w:List (List UInt8)} (h:∀ x ∈ w,(10:UInt8) ∉ x):spl 10 (cat w)=w++[[]]:=by
 induction w with
 | nil=>rfl
 | cons x w ih =>
  have e:cat (x :: w)=x++10 :: cat w:=by
   show (x++[10])++cat w=_
   rw [List.append_assoc]; rfl
  rw [e,spl_app (h x List.mem_cons_self),ih fun y hy=>h y (List.mem_cons_of_mem _ hy)]; rfl
theorem cat_spl:∀ u:List UInt8,cat (spl 10 u)=u++[10]
 | []=>rfl
 | b :: l=>by
  have ih:=cat_spl l
  by_cases hb:b=10
  ·rw [spl,if_pos hb]
   show [10]++cat (spl 10 l)=_
   rw [ih,hb]; rfl
  ·obtain ⟨r,e⟩:=spl_cons 10 l
   rw [e] at ih
   rw [spl,if_neg hb,e]
   show b :: (bfr 10 l++[10])++cat r=_
   exact congrArg (b :: ·) ih
theorem spl_end (c:UInt8):∀ u:List UInt8,spl c (u++[c])=spl c u++[[]]
 | []=>if_pos rfl
 | b :: l=>by
  have ih:=spl_end c l
  rw [List.cons_append,spl,ih]
  by_cases hb:b=c
  ·rw [if_pos hb,spl,if_pos hb]; rfl
  ·obtain ⟨r,e⟩:=spl_cons c l
   rw [if_neg hb,spl,if_neg hb,e]; rfl
theorem spl_ends {c b:UInt8} (hb:b ≠ c):∀ u:List UInt8,∃ o z,spl c (u++[b])=o++[z++[b]]
 | []=>⟨[],[],by rw [List.nil_append,spl,if_neg hb]; rfl⟩
 | a :: l=>by
  obtain ⟨o,z,e⟩:=spl_ends hb l
  by_cases ha:a=c
  ·exact ⟨[] :: o,z,by rw [List.cons_append,spl,if_pos ha,e]; rfl⟩
  ·cases o with
   | nil=>exact ⟨[],a :: z,by rw [List.cons_append,spl,if_neg ha,e]; rfl⟩
   | cons x o=>exact ⟨(a :: x) :: o,z,by rw [List.cons_append,spl,if_neg ha,e]; rfl⟩
theorem lns_fmt {l:List (Int × DP)} (h:okM l):lns (fmtM l)=l.map fmtS:=by
 refine lns_nil ?_
 rw [fmtM_ok h]
 refine spl_cat fun x hx=>?_
 obtain ⟨p,hp,rfl⟩:=List.mem_map.1 hx
 exact fmtS_nl (h.2 p hp)
theorem pS_fmt {p:Int × DP} (h:okS p):pS (fmtS p)=some p:=unF_some (fun _ _=>fmtS_inj) h rfl
theorem pS_map {l:List (Int × DP)} (h:∀ x ∈ l,okS x):(l.map fmtS).map pS=l.map some:=by
 rw [List.map_map]
 exact List.map_congr_left fun x hx=>pS_fmt (h x hx)
theorem lns_pS {l:List (Int × DP)} (h:okM l):(lns (fmtM l)).map pS=l.map some:=by rw [lns_fmt h,pS_map h.2]
theorem some_inj {l m:List (Int × DP)} (h:l.map some=m.map some):l=m:=(List.map_inj_right fun _ _ e=>Option.some.inj e).1 h
theorem fmtM_inj {l m:List (Int × DP)} (h:okM l) (h':okM m) (e:fmtM l=fmtM m):l=m:=some_inj (by rw [<-lns_pS h,<-lns_pS h',e])
theorem pM_no1 {s:List UInt8} {k:Nat} (hk:k < (lns s).length) (h:pS (lns s)[k]=none):pM s=none:=unF_none fun l hl e=>by
 subst e
 have e1:=lns_pS hl
 have e2:((lns (fmtM l)).map pS)[k]? = (l.map some)[k]?:=by rw [e1]
 rw [List.getElem?_map,List.getElem?_map,List.getElem?_eq_getElem hk,Option.map_some,h] at e2
 cases hx:l[k]? with
 | none=>rw [hx] at e2; cases e2
 | some x=>rw [hx] at e2; cases e2
theorem pM_no2 {s:List UInt8} (h:60 < (lns s).length):pM s=none:=unF_none fun l hl e=>by
 subst e
 rw [lns_fmt hl,List.length_map] at h
 have:=hl.1
 omega
theorem pM_no3 {u:List UInt8} {b:UInt8} (hb:b ≠ 10):pM (u++[b])=none:=unF_none fun l hl e=>by
 obtain ⟨o,z,h⟩:=spl_ends hb u
 have h2:spl 10 (fmtM l)=l.map fmtS++[[]]:=by
  rw [fmtM_ok hl]
  refine spl_cat fun x hx=>?_
  obtain ⟨p,hp,rfl⟩:=List.mem_map.1 hx
  exact fmtS_nl (hl.2 p hp)
 rw [e,h] at h2
 have:=(List.append_inj_right' h2 rfl)
 have:=(List.cons.inj this).1
 cases (List.append_eq_nil_iff.1 this).2
theorem pM_nil:pM []=some []:=by
 have ho:okM []:=⟨Nat.zero_le _,fun x hx=>by cases hx⟩
 exact unF_some (fun _ _=>fmtM_inj) ho ((fmtM_ok ho).trans rfl)
theorem okS_map {w:List (List UInt8)} {l:List (Int × DP)} (h:w.map pS=l.map some):(∀ x ∈ l,okS x)/\w=l.map fmtS:=by
 induction w generalizing l with
 | nil=>cases l with
  | nil=>exact ⟨fun x hx=>absurd hx List.not_mem_nil,rfl⟩
  | cons x l=>cases h
 | cons y w ih=>cases l with
  | nil=>cases h
  | cons x l =>
   have h1:=(List.cons.inj h).1
   obtain ⟨i1,i2⟩:=ih (List.cons.inj h).2
   obtain ⟨j1,j2⟩:=unF_eq (ok:=okS) (f:=fmtS) h1
   exact ⟨fun z hz=>(List.mem_cons.1 hz).elim (fun e=>by rw [e]; exact j1) (i1 z),by rw [List.map_cons,j2,<-i2]⟩
theorem pM_yes {u:List UInt8} {l:List (Int × DP)} (h:(lns (u++[10])).map pS=l.map some) (hl:l.length<=60):pM (u++[10])=some l:=by
 obtain ⟨h1,h2⟩:=okS_map h
 have ho:okM l:=⟨hl,h1⟩
 refine unF_some (fun _ _=>fmtM_inj) ho ?_
 rw [fmtM_ok ho,<-h2,lns_nil (spl_end 10 u),cat_spl]
theorem nth_lns {w:List (List UInt8)} {k:Nat} (h:k < w.length):@nth .str (w.map bs) k=bs w[k]:=by
 rw [nth,List.getD_eq_getElem?_getD,List.getElem?_map,List.getElem?_eq_getElem h]; rfl
theorem parseStep_none {s:List UInt8} (hl:s.length<=1048576) (h:pS s=none):FnT Tryz.prog 30 [⟨.str,bs s⟩] [⟨tStep,(0,(((false,[]),[]),((false,[]),[])))⟩,⟨.bool,false⟩]:=by
 have:=parseStep_fn s hl
 rw [h] at this
 exact this
theorem parseStep_some {s:List UInt8} {x:Int × DP} (hl:s.length<=1048576) (h:pS s=some x):FnT Tryz.prog 30 [⟨.str,bs s⟩] [⟨tStep,x⟩,⟨.bool,true⟩]:=by
 have:=parseStep_fn s hl
 rw [h] at this
 exact this
theorem line_len {s:List UInt8}:∀ x ∈ lns s,x.length<=s.length:=by
 have h:∀ (s:List UInt8),∀ x ∈ spl 10 s,x.length<=s.length:=by
  intro s
  induction s with
  | nil=>intro x hx; rw [List.mem_singleton.1 hx]; exact Nat.le_refl _
  | cons b l ih =>
   intro x hx
   rw [spl] at hx
   split at hx
   ·rcases List.mem_cons.1 hx with e|e
    ·rw [e]; exact Nat.zero_le _
    ·exact Nat.le_trans (ih x e) (by rw [List.length_cons]; omega)
   ·split at hx
    ·rw [List.mem_singleton.1 hx,List.length_cons]; exact Nat.succ_le_succ (Nat.zero_le _)
    ·rename_i y r e
     rcases List.mem_cons.1 hx with e2|e2
     ·rw [e2,List.length_cons,List.length_cons]
      exact Nat.succ_le_succ (ih y (by rw [e]; exact List.mem_cons_self))
     ·exact Nat.le_trans (ih x (by rw [e]; exact List.mem_cons_of_mem _ e2)) (by rw [List.length_cons]; omega)
 intro x hx
 unfold lns at hx
 split at hx
 ·exact h s x (List.dropLast_subset _ hx)
 ·exact h s x hx
theorem map_snoc {w:List (List UInt8)} {o:List (Int × DP)} {k:Nat} {x:Int × DP} (hk:k < w.length) (h:(w.take k).map pS=o.map some) (hx:pS w[k]=some x):(w.take (k+1)).map pS=(o++[x]).map some:=by
 rw [<-List.take_append_getElem hk,List.map_append,List.map_append,h,List.map_singleton,List.map_singleton,hx]
theorem parseMotion_lines (u:List UInt8) (hl:(u++[10]).length<=1048576):FnT Tryz.prog 35 [⟨.str,bs (u++[10])⟩] [⟨.slice tStep,(pM (u++[10])).getD []⟩,⟨.bool,(pM (u++[10])).isSome⟩]:=by
 have c1:=hasSuffix_fn u 10 hl
 have c2:=splitLines_fn (u++[10]) hl
 have hyes:=@pM_yes u
 have hne:u++[10] ≠ []:=fun e=>by cases (List.append_eq_nil_iff.1 e).2
 have hll:=lns_len (u++[10])
 generalize u++[10]=s at hl c1 c2 hyes hne hll
 refine fnT_enter tabOK mixes Tryz.func35 rfl rfl _ Tryz.ntmps35 _ Tryz.results35 (by simp) fun hwf=>?_
 try simp (maxSteps:=9^9) only[go_sem,hne]
 repeat refine AI ?_
 refine cw c1 ?_
 try simp (maxSteps:=9^9) only[go_sem]
 repeat refine AI ?_
 refine cw c2 ?_
 try simp (maxSteps:=9^9) only[go_sem]
 refine LoopG.intro _ _ _ (fun y:Nat × List (Int × DP)=>⟨[(2,.sc (.slice none 0 0)),(3,.sc (.bool false)),(4,.row 4 0),(16,.sl .str ((lns s).map bs)),(17,.sc (.int .i64 (((lns s).map bs).length:Int))),(18,.sc (.int .i64 y.1))],[(4,.row 48 tStep 0 true y.2)]⟩) (fun y=>y.1<=(lns s).length/\y.2.length=y.1/\y.1<=60/\((lns s).take y.1).map pS=y.2.map some) (fun y=>(lns s).length - y.1) (0,[]) ?_ ⟨Nat.zero_le _,rfl,Nat.zero_le _,rfl⟩ ?_
 ·refine Wk.mk [(4,0)] ?_
  try simp (maxSteps:=9^9) only[go_sem]
  try (and_intros<;>first|rfl|omega|exact ⟨_,rfl⟩)
 ·have hlm:((lns s).map bs).length=(lns s).length:=List.length_map ..
  rintro ⟨k,o⟩ ⟨k1,k2,k3,k4⟩
  dsimp only at k1 k2 k3 k4
  try simp (maxSteps:=9^9) only[go_sem]
  refine CondW_dec (fun h4=>?_) (fun h4=>?_)
  ·have hk:k < (lns s).length:=by omega
   have hx:(lns s)[k].length<=1048576:=Nat.le_trans (line_len _ (List.getElem_mem hk)) hl
   have hnt:=nth_lns hk
   cases hp:pS (lns s)[k] with
   | none =>
    rw [pM_no1 hk hp]
    try simp (maxSteps:=9^9) only[go_sem]
    refine ⟨by omega,by omega,?_⟩
    simp only [hnt]
    refine CallW.to (parseStep_none hx hp) ?_
    try simp (maxSteps:=9^9) only[go_sem]
   | some x =>
    try simp (maxSteps:=9^9) only[go_sem]
    refine ⟨by omega,by omega,?_⟩
    simp only [hnt]
    refine CallW.to (parseStep_some hx hp) ?_
    try simp (maxSteps:=9^9) only[go_sem]
    refine CondW_dec (fun h5=>?_) (fun h5=>?_)
    ·rw [pM_no2 (show 60 < (lns s).length by omega)]
     try simp (maxSteps:=9^9) only[go_sem]
    ·try simp (maxSteps:=9^9) only[go_sem]
     refine ⟨by omega,by omega,i64_nat (by omega) (by omega),LoopK.mk (k+1,o++[x]) ?_ ⟨hk,by dsimp only; rw [List.length_append,k2]; rfl,by dsimp only; omega,map_snoc hk k4 hp⟩ (by dsimp only; omega)⟩
     exact WK
  ·have hkl:k=(lns s).length:=by omega
   rw [hkl,List.take_length] at k4
   rw [hyes k4 (by omega)]
   try simp (maxSteps:=9^9) only[go_sem]
theorem parseMotion_fn (s:List UInt8) (hl:s.length<=1048576):FnT Tryz.prog 35 [⟨.str,bs s⟩] [⟨.slice tStep,(pM s).getD []⟩,⟨.bool,(pM s).isSome⟩]:=by
 rcases List.eq_nil_or_concat s with e|⟨u,b,e⟩
 ·subst e
  rw [pM_nil]
  refine fnT_enter tabOK mixes Tryz.func35 rfl rfl _ Tryz.ntmps35 _ Tryz.results35 (by simp) fun hwf=>?_
  try simp (maxSteps:=9^9) only[go_sem]
 ·rw [List.concat_eq_append] at e
  by_cases hb:b=10
  ·subst hb
   rw [e] at hl ⊢
   exact parseMotion_lines u hl
  ·have c1:=hasSuffix_fn u b (by rw [<-e]; exact hl)
   have hno:=@pM_no3 u b hb
   have hne:s ≠ []:=fun h=>by rw [h] at e; cases (List.append_eq_nil_iff.1 e.symm).2
   rw [<-e] at c1 hno
   rw [decide_eq_false hb] at c1
   rw [hno]
   refine fnT_enter tabOK mixes Tryz.func35 rfl rfl _ Tryz.ntmps35 _ Tryz.results35 (by simp) fun hwf=>?_
   try simp (maxSteps:=9^9) only[go_sem,hne]
   repeat refine AI ?_
   refine cw c1 ?_
   try simp (maxSteps:=9^9) only[go_sem]
section
variable {P:Program} {T:TypeId->Option Ty}
def RetG (T:TypeId->Option Ty) (rs:List ResultVar) (e:TypeId) (t:Ty) (l:List t.den) (σ:St):Prop :=
 match rs with
 | [r]=>∃ k ver,aRes T σ r=some (.row k ver)/\look σ.mem k=some (.row e t ver true l)
 | _=>False
def KRG (T:TypeId->Option Ty) (rs:List ResultVar) (e:TypeId) (t:Ty) (l:List t.den) (ex:Exit) (σ:St):Prop :=
 match ex with
 | .normal|.ret=>RetG T rs e t l σ
 | _=>False
@[go_sem] theorem KRG_n {rs:List ResultVar} {e:TypeId} {t:Ty} {l:List t.den} {σ:St}:KRG T rs e t l .normal σ=RetG T rs e t l σ:=(rfl)
@[go_sem] theorem KRG_r {rs:List ResultVar} {e:TypeId} {t:Ty} {l:List t.den} {σ:St}:KRG T rs e t l .ret σ=RetG T rs e t l σ:=(rfl)
attribute [go_sem] RetG
def RetP (T:TypeId->Option Ty) (rs:List ResultVar) (t:Ty) (x:t.den) (σ:St):Prop :=
 match rs with
 | [r]=>match aRes T σ r with
  | some (.ptr k 0)=>match look σ.mem k with
   | some (.box cs)=>Is (look σ.mem) t x cs
   | _=>False
  | _=>False
 | _=>False
def KRP (T:TypeId->Option Ty) (rs:List ResultVar) (t:Ty) (x:t.den) (ex:Exit) (σ:St):Prop :=
 match ex with
 | .normal|.ret=>RetP T rs t x σ
 | _=>False
@[go_sem] theorem KRP_n {rs:List ResultVar} {t:Ty} {x:t.den} {σ:St}:KRP T rs t x .normal σ=RetP T rs t x σ:=(rfl)
@[go_sem] theorem KRP_r {rs:List ResultVar} {t:Ty} {x:t.den} {σ:St}:KRP T rs t x .ret σ=RetP T rs t x σ:=(rfl)
attribute [go_sem] RetP
theorem args_wf {w:World} {S:Nat->Prop}:∀ {vs:List Value} {ds:List Dat},All2 (fun v d=>∃ fp,DRep w v d fp/\∀ b ∈ fp,S b) vs ds->∀ d ∈ ds,Wf d.1 d.2
 | _,[],_,d,hd=>by cases hd
 | v :: vs,d :: ds,⟨⟨fp,⟨cs,_,hr⟩,_⟩,h2⟩,d',hd'=>by
  rcases List.mem_cons.1 hd' with rfl|hd'
  ·exact rep_wf hr
  ·exact args_wf h2 d' hd'
 | [],_ :: _,h,_,_=>h.elim
theorem args_at {w:World} {S:Nat->Prop} {e:Dat}:∀ {vs:List Value} {ds:List Dat} {d:Nat},All2 (fun v d=>∃ fp,DRep w v d fp/\∀ b ∈ fp,S b) vs ds->ds[d]? = some e->∃ u,vs[d]? = some u/\∃ fp,DRep w u e fp/\∀ b ∈ fp,S b
 | _,[],d,_,h=>by simp at h
 | [],_ :: _,_,hA,_=>hA.elim
 | v :: vs,d0 :: ds,0,hA,h=>by simp at h; subst h; exact ⟨v,rfl,hA.1⟩
 | v :: vs,d0 :: ds,d+1,hA,h=>by simpa using args_at hA.2 (by simpa using h)
def KRC (T:TypeId->Option Ty) (rs:List ResultVar) (own:Bool) (d:Dat) (B:Blk) (ex:Exit) (σ:St):Prop :=
 match ex with
 | .normal|.ret=>RetOK T σ own rs [d]/\look σ.mem 0=some B
 | _=>False
@[go_sem] theorem KRC_n {rs:List ResultVar} {own:Bool} {d:Dat} {B:Blk} {σ:St}:KRC T rs own d B .normal σ=(RetOK T σ own rs [d]/\look σ.mem 0=some B):=(rfl)
@[go_sem] theorem KRC_r {rs:List ResultVar} {own:Bool} {d:Dat} {B:Blk} {σ:St}:KRC T rs own d B .ret σ=(RetOK T σ own rs [d]/\look σ.mem 0=some B):=(rfl)
theorem fnC_enter (hT:TabOK P T) (hmix:P.follows .mixedOrders=true) {f:FuncId} {fn:Func} {code:Code} {t:Ty} {l:List t.den} {zs zs':List Value} {args:List Dat} {own:Bool} {d:Dat} (hf:P.funcs[f]? = some fn) (hname:(fn.name == "runtime.NumGoroutine")=false) (hb:fn.body=some code) (n:Nat) (hn:fn.ntmps=n) (rs:List ResultVar) (hr:fn.results=rs.toArray) (hna:args.length < n)
  (hz:∀ z ∈ zs',z.oneCell'=true/\okv z) (hzo:∀ z ∈ zs,z.oneCell'=true)
  (h:∀ b u0,Wf (.slice t) l->(∀ z ∈ zs,okv z)->(∀ d ∈ args,Wf d.1 d.2)->AC P T n code (KRC T rs own d (.bx (some b) (.fx u0 t l :: zs'.map fun z=>.sc z))) ⟨(0,.ptr 0 0) :: argTm 1 args,[(0,.bx (some b) (.fx u0 t l :: zs.map fun z=>.sc z))]⟩):FnC P f t l zs zs' args own d:=by
 subst hn
 refine ⟨fun vs w=>?_,hz,fun w b u0 e fp vs S hgw hgb hg hzs hrp hfp hSb hargs=>?_⟩
 ·have h1:fn.name ≠ "runtime.NumGoroutine":=by simpa using hname
  simp [callFunc,hf,h1,hb]
 ·refine calls_of_wp hf hb ?_
  have hlen:=hargs.len
  let c:Cx:=⟨w.heap.size,w,S,fn.ntmps,fun x=>x=b⟩
  have hmut:∀ {Γ:Asg} {x:Nat},S x->¬ Mut [(0,Blk.bx (some b) (.fx u0 t l :: zs.map fun z=>.sc z))] Γ x:=by
   rintro Γ x hx ⟨k,B,hk,hm⟩
   by_cases h0:k=0
   ·subst h0
    rw [look_self] at hk; injection hk with hk; subst hk
    obtain rfl:x=b:=hm
    exact hSb hx
   ·rw [look_ne _ _ h0] at hk; cases hk
  have hs:Sim c ⟨(0,.ptr 0 0) :: argTm 1 args,[(0,.bx (some b) (.fx u0 t l :: zs.map fun z=>.sc z))]⟩ ⟨fun _=>0,fun _=>undef,fun _=>[]⟩ { tmps:=(.pointer (some ⟨b,0,none⟩) :: vs).toArray++Array.replicate (fn.ntmps - (Value.pointer (some ⟨b,0,none⟩) :: vs).toArray.size) undef,defers:=[] } w:=by
   refine ⟨fun d v hd=>?_,fun k B hk=>?_,fun k k' B B' x hk hk' _ _=>?_,fun k k' B B' x hk hk' hne hx=>?_,.of (Below.refl _ _),Nat.le_refl _,rfl,by simp [c]; omega⟩
   ·by_cases hd0:d=0
    ·subst hd0
     rw [look_self] at hd; injection hd with hd; subst hd
     refine ⟨.pointer (some ⟨b,0,none⟩),?_,some b,_,look_self ..,rfl⟩
     rw [Array.getElem?_append_left (by simp)]; rfl
    ·rw [look_ne _ _ hd0] at hd
     obtain ⟨h1,h2,e,h3,rfl⟩:=argTm_ge hd
     obtain ⟨u,hu,fp,hdr,hS⟩:=args_at hargs h3
     refine ⟨u,?_,arep_vrep (av_rep hdr fun x hx=>⟨.inl (hS x hx),hmut (hS x hx)⟩)⟩
     have hdl:d < (Value.pointer (some ⟨b,0,none⟩) :: vs).length:=by simp; omega
     rw [Array.getElem?_append_left (by simpa using hdl)]
     have:d=(d - 1)+1:=by omega
     rw [this]
     simpa using hu
   ·by_cases h0:k=0
    ·subst h0
     rw [look_self] at hk; injection hk with hk; subst hk
     refine ⟨rfl,_,e,hg,⟨rfl,fp,hrp,fun x hx=>⟨.inl (hfp x hx),hmut (hfp x hx)⟩⟩,?_⟩
     have key:∀ {ys:List Value},(∀ z ∈ ys,okv z)->(∀ z ∈ ys,z.oneCell'=true)->∀ {M:Mm} {Γ:Asg},All2 (CRep c M Γ w) (ys.map fun z=>AV.sc z) ys:=fun h1 h2=>vals_sc fun z hz=>⟨h2 z hz,h1 z hz⟩
     exact key hzs hzo
    ·rw [look_ne _ _ h0] at hk; cases hk
   ·by_cases h0:k=0<;>by_cases h1:k'=0
    ·omega
    ·rw [look_ne _ _ h1] at hk'; cases hk'
    ·rw [look_ne _ _ h0] at hk; cases hk
    ·rw [look_ne _ _ h0] at hk; cases hk
   ·by_cases h0:k=0
    ·subst h0
     rw [look_self] at hk; injection hk with hk; subst hk; cases hx
    ·rw [look_ne _ _ h0] at hk; cases hk
  have hrl:fn.results.toList=rs:=by rw [hr]
  have hcg:Nonempty (CG P c):=⟨CG.of hgw fun g hg e=>hgb g hg e.symm⟩
  refine AC_wp (c:=c) hT hmix (h b u0 (rep_wf (t:=.slice t) hrp) hzs (args_wf hargs)) hs fun e σ' Γ' a' w' hq hs'=>?_
  have hq':∀ (hx:RetOK T σ' own rs [d]/\look σ'.mem 0=some (.bx (some b) (.fx u0 t l :: zs'.map fun z=>.sc z))),a'.defers=[]/\∃ v,(results fn a'.tmps).run P w'=.ok v w'/\BelowX (fun x=>x=b) w.heap.size w w'/\(∃ e,w'.heap[b]? = some (.cells (u0 :: zs').toArray e (0,0)))/\∃ u,Ending.returned v=.returned u/\ResOK own w.heap.size S w' u [d]:=fun hx=>by
   obtain ⟨v,h1,h2⟩:=ret_ok (P:=P) (fn:=fn) hT hs' (by rw [hrl]; exact hx.1)
   obtain ⟨_,us,e,hge,hce⟩:=hs'.mm 0 _ hx.2
   refine ⟨hs'.defs,v,h1,hs'.below,⟨e,?_⟩,v,rfl,h2⟩
   have hul:us.toList=u0 :: zs':=by
    cases hul:us.toList with
    | nil=>rw [hul] at hce; exact hce.elim
    | cons x xs =>
     rw [hul] at hce
     obtain ⟨h3,_⟩:=sc_vals hce.2
     rw [h3,show x=u0 from hce.1.1]
   rw [show (u0 :: zs').toArray=us by rw [<-hul]]
   exact hge
  cases e with
  | normal=>exact hq' hq
  | ret=>exact hq' hq
  | _=>exact hq.elim
def RetN (T:TypeId->Option Ty) (rs:List ResultVar) (cs:List AV) (σ:St):Prop :=
 match rs with
 | [r]=>match aRes T σ r with
  | some (.ptr k 0)=>look σ.mem k=some (.bx none cs)
  | _=>False
 | _=>False
def KRN (T:TypeId->Option Ty) (rs:List ResultVar) (cs:List AV) (ex:Exit) (σ:St):Prop :=
 match ex with
 | .normal|.ret=>RetN T rs cs σ
 | _=>False
@[go_sem] theorem KRN_n {rs:List ResultVar} {cs:List AV} {σ:St}:KRN T rs cs .normal σ=RetN T rs cs σ:=(rfl)
@[go_sem] theorem KRN_r {rs:List ResultVar} {cs:List AV} {σ:St}:KRN T rs cs .ret σ=RetN T rs cs σ:=(rfl)
attribute [go_sem] RetN
theorem fnN_enter (hT:TabOK P T) (hmix:P.follows .mixedOrders=true) {f:FuncId} {fn:Func} {code:Code} {t:Ty} {l:List t.den} {zs:List Value} {args:List Dat} (hf:P.funcs[f]? = some fn) (hname:(fn.name == "runtime.NumGoroutine")=false) (hb:fn.body=some code) (n:Nat) (hn:fn.ntmps=n) (rs:List ResultVar) (hr:fn.results=rs.toArray) (hna:args.length < n)
  (hz:∀ z ∈ zs,z.oneCell'=true/\okv z)
  (h:∀ u0,Wf (.slice t) l->(∀ d ∈ args,Wf d.1 d.2)->AC P T n code (KRN T rs (.fx u0 t l :: zs.map fun z=>.sc z)) ⟨(0,.fx u0 t l) :: argTm 1 args,[]⟩):FnN P f t l zs args:=by
 subst hn
 refine ⟨fun vs w=>?_,hz,fun w u0 fp vs S hgw hrp hfp hargs=>?_⟩
 ·have h1:fn.name ≠ "runtime.NumGoroutine":=by simpa using hname
  simp [callFunc,hf,h1,hb]
 ·refine calls_of_wp hf hb ?_
  have hlen:=hargs.len
  let c:Cx:=⟨w.heap.size,w,S,fn.ntmps,fun _=>False⟩
  have hs:Sim c ⟨(0,.fx u0 t l) :: argTm 1 args,[]⟩ ⟨fun _=>0,fun _=>undef,fun _=>[]⟩ { tmps:=(u0 :: vs).toArray++Array.replicate (fn.ntmps - (u0 :: vs).toArray.size) undef,defers:=[] } w:=by
   refine ⟨fun d v hd=>?_,fun k B hk=>(by cases hk),fun k k' B B' b hk=>(by cases hk),fun k k' B B' b hk=>(by cases hk),.of (Below.refl _ _),Nat.le_refl _,rfl,by simp [c]; omega⟩
   have hmut:∀ {Γ:Asg} {x:Nat},¬ Mut [] Γ x:=by rintro Γ x ⟨k,B,hk,_⟩; cases hk
   by_cases hd0:d=0
   ·subst hd0
    rw [look_self] at hd; injection hd with hd; subst hd
    refine ⟨u0,?_,rfl,fp,hrp,fun x hx=>⟨.inl (hfp x hx),hmut⟩⟩
    rw [Array.getElem?_append_left (by simp)]; rfl
   ·rw [look_ne _ _ hd0] at hd
    obtain ⟨h1,h2,e,h3,rfl⟩:=argTm_ge hd
    obtain ⟨u,hu,fp,hdr,hS⟩:=args_at hargs h3
    refine ⟨u,?_,arep_vrep (av_rep hdr fun x hx=>⟨.inl (hS x hx),hmut⟩)⟩
    have hdl:d < (u0 :: vs).length:=by simp; omega
    rw [Array.getElem?_append_left (by simpa using hdl)]
    have:d=(d - 1)+1:=by omega
    rw [this]
    simpa using hu
  have hrl:fn.results.toList=rs:=by rw [hr]
  have hcg:Nonempty (CG P c):=⟨CG.of hgw fun _ _ h=>h⟩
  refine AC_wp (c:=c) hT hmix (h u0 (rep_wf (t:=.slice t) hrp) (args_wf hargs)) hs fun e σ' Γ' a' w' hq hs'=>?_
  have hq':∀ (hx:RetN T rs (.fx u0 t l :: zs.map fun z=>.sc z) σ'),a'.defers=[]/\∃ v,(results fn a'.tmps).run P w'=.ok v w'/\Below w.heap.size w w'/\∃ (b:Nat) (e:TypeId),Ending.returned v=.returned (.pointer (some ⟨b,0,none⟩))/\w.heap.size<=b/\w'.heap[b]? = some (.cells (u0 :: zs).toArray e (0,0)):=fun hx=>by
   unfold RetN at hx
   split at hx
   ·rename_i r
    split at hx
    ·rename_i k h1
     obtain ⟨u,g1,xo,cs',hq,rfl⟩:=aRes_run (P:=P) hT hs' h1 rfl
     rw [hx] at hq; cases hq
     obtain ⟨hbase,us,e,hge,hce⟩:=hs'.mm k _ hx
     have hul:us.toList=u0 :: zs:=by
      cases hul:us.toList with
      | nil=>rw [hul] at hce; exact hce.elim
      | cons x xs =>
       rw [hul] at hce
       obtain ⟨h3,_⟩:=sc_vals hce.2
       rw [h3,show x=u0 from hce.1.1]
     refine ⟨hs'.defs,_,?_,hs'.below.to,Γ'.loc k none,e,rfl,hbase,by rw [show (u0 :: zs).toArray=us by rw [<-hul]]; exact hge⟩
     rw [results_eq,hr,List.mapM_toArray,map_eq_pure_bind,Sem.run_bind,Sem.run_bind]
     simp only [List.mapM_cons,List.mapM_nil,Sem.run_bind,g1,Result.andThen_ok,Sem.run_pure]
     simp
    ·exact hx.elim
   ·exact hx.elim
  cases e with
  | normal=>exact hq' hq
  | ret=>exact hq' hq
  | _=>exact hq.elim
def KRM (T:TypeId->Option Ty) (rs:List ResultVar) (res:List Dat) (B:Blk) (ex:Exit) (σ:St):Prop :=
 match ex with
 | .normal|.ret=>RetOK T σ false rs res/\look σ.mem 0=some B
 | _=>False
@[go_sem] theorem KRM_n {rs:List ResultVar} {res:List Dat} {B:Blk} {σ:St}:KRM T rs res B .normal σ=(RetOK T σ false rs res/\look σ.mem 0=some B):=(rfl)
@[go_sem] theorem KRM_r {rs:List ResultVar} {res:List Dat} {B:Blk} {σ:St}:KRM T rs res B .ret σ=(RetOK T σ false rs res/\look σ.mem 0=some B):=(rfl)
def avW (b:Nat) (d:Dat):AV :=
 match d with
 | ⟨.cst (.ptr p),_⟩=>if p=b then .ptr 0 0 else .sc (.pointer (some ⟨p,0,none⟩))
 | d=>av d.1 d.2
def argW (b i:Nat):List Dat->Tm
 | []=>[]
 | d :: ds=>(i,avW b d) :: argW b (i+1) ds
def RetNP (T:TypeId->Option Ty) (rs:List ResultVar) (t:Ty) (x:t.den) (σ:St):Prop :=
 match rs with
 | [r]=>match aRes T σ r with
  | some (.ptr k 0)=>match look σ.mem k with
   | some (.bx none cs)=>Is (lmQ (look σ.mem)) t x (cs.take t.size)/\(match cs.drop t.size with
    | [.row j v]=>(match look σ.mem j with
     | some (.ob none v' (.map []))=>v'=v
     | _=>False)
    | _=>False)
   | _=>False
  | _=>False
 | _=>False
def KRNP (T:TypeId->Option Ty) (rs:List ResultVar) (t:Ty) (x:t.den) (ex:Exit) (σ:St):Prop :=
 match ex with
 | .normal|.ret=>RetNP T rs t x σ
 | _=>False
@[go_sem] theorem KRNP_n {rs:List ResultVar} {t:Ty} {x:t.den} {σ:St}:KRNP T rs t x .normal σ=RetNP T rs t x σ:=(rfl)
@[go_sem] theorem KRNP_r {rs:List ResultVar} {t:Ty} {x:t.den} {σ:St}:KRNP T rs t x .ret σ=RetNP T rs t x σ:=(rfl)
attribute [go_sem] RetNP avW argW
def argV (i:Nat):List AV->Tm
 | []=>[]
 | v :: vs=>(i,v) :: argV (i+1) vs
def TW (P:Program) (n:Nat) (x:Code) (Q:Exit->St->Prop) (σ:St):Prop :=
 ∀ (c:Cx) (Γ:Asg) (a:Act) (w:World) (Q':Exit->Act->World->Prop),CG P c->c.n=n->Sim c σ Γ a w->(∀ e σ' Γ' a' w',Q e σ'->Sim c σ' Γ' a' w'->Q' e a' w')->x.wp P Q' a w
theorem TW.of (hT:TabOK P T) (hmix:P.follows .mixedOrders=true) {n:Nat} {x:Code} {Q:Exit->St->Prop} {σ:St} (h:AC P T n x Q σ):TW P n x Q σ :=
 fun c Γ a w Q' hcg0 hn hs hQ=>have:Nonempty (CG P c):=⟨hcg0⟩; AC_wp hT hmix (by rw [hn]; exact h) hs hQ
theorem TW.seq (hT:TabOK P T) (hmix:P.follows .mixedOrders=true) {n:Nat} {x y:Code} {Q:Exit->St->Prop} {σ:St} (h:AC P T n x (thenA (fun σ'=>TW P n y Q σ') Q) σ):TW P n (.seq x y) Q σ :=
 fun c Γ a w Q' hcg0 hn hs hQ=>by
  have hcg:Nonempty (CG P c):=⟨hcg0⟩
  refine wp_seq (AC_wp hT hmix (show AC P T c.n x _ σ by rw [hn]; exact h) hs fun e σ' Γ' a' w' hq hs'=>?_)
  cases e with
  | normal=>exact hq c Γ' a' w' Q' hcg0 hn hs' hQ
  | _=>exact hQ _ _ _ _ _ hq hs'
theorem TW.then (hT:TabOK P T) (hmix:P.follows .mixedOrders=true) {n:Nat} {x y:Code} {Q:Exit->St->Prop} {σ:St} (h:TW P n x (thenA (fun σ'=>AC P T n y Q σ') Q) σ):TW P n (.seq x y) Q σ :=
 fun c Γ a w Q' hcg0 hn hs hQ=>by
  have hcg:Nonempty (CG P c):=⟨hcg0⟩
  refine wp_seq (h c Γ a w _ hcg0 hn hs fun e σ' Γ' a' w' hq hs'=>?_)
  cases e with
  | normal=>exact AC_wp hT hmix (show AC P T c.n y Q σ' by rw [hn]; exact hq) hs' hQ
  | _=>exact hQ _ _ _ _ _ hq hs'
end
theorem andI_rng (a:Int) {m:Int} (h0:0<=m) (h1:m<=9223372036854775807):0<=andI a m/\andI a m<=m:=by
 have hle:(BitVec.ofInt 64 a &&& BitVec.ofInt 64 m).toNat<=m.toNat:=by
  rw [BitVec.toNat_and]
  refine Nat.le_trans Nat.and_le_right ?_
  rw [BitVec.toNat_ofInt]
  have h64:((2 ^ 64:Nat):Int)=18446744073709551616:=by decide
  have:m % ((2 ^ 64:Nat):Int)=m:=Int.emod_eq_of_lt h0 (by omega)
  rw [this]
  exact Nat.le_refl _
 unfold andI
 rw [wrap_I64 (by constructor<;>omega)]
 omega
def tyW:TypeId->Option Ty
 | 3=>some .int
 | 5=>some .u8
 | 66=>some (.slice .u8)
 | 126=>some tCur
 | _=>none
theorem tabOKW:TabOK Tryz.prog tyW:=by
 intro ty t h
 unfold tyW at h
 split at h
 all_goals first|cases h; done|(injection h with h; subst h; exact tyOK (by kernel_rfl) (by kernel_rfl))
attribute [go_sem] tyW
theorem wildW:wild tyW:=by
 intro ty h
 unfold tyW at h
 split at h<;>cases h
@[go_sem] theorem aBin_wild {P:Program} {lt:Nat->Option AV} {K:Eff->Prop} {op:BinOp} {ty:TypeId} {x y:Operand}:aBin P tyW lt K op ty x y=aBinX P lt K op ty x y:=if_pos wildW
def nu (l:List Int) (i:Nat):Int:=nth (t:=.u8) l i
@[go_sem] theorem nth_u8 (l:List Int) (i:Nat):@nth .u8 l i=nu l i:=(rfl)
structure Cu (code:List Int) where
 i:Nat
 h:Int
 hi:i<=code.length
 hh:I64 h
def stH (h:Int):Int:=IntKind.i64.wrap (IntKind.i64.wrap (h * 6364136223846793005)+1442695040888963407)
def stX (h:Int):Int:=andI (xorI (h.fdiv (2 ^ 33)) (h.fdiv (2 ^ 45))) 255
theorem stX_rng (h:Int):0<=stX h/\stX h<=255:=andI_rng _ (by decide) (by decide)
variable {code:List Int}
def Cu.next (c:Cu code):Cu code:=⟨if c.i < code.length then c.i+1 else c.i,stH c.h,by have:=c.hi; split<;>omega,wrap_in _⟩
def Cu.byte (c:Cu code):Int:=if c.i < code.length then andI (stX (stH c.h)+nu code c.i) 255 else stX (stH c.h)
theorem Cu.byte_rng (c:Cu code):0<=c.byte/\c.byte<=255:=by
 unfold Cu.byte
 split
 ·exact andI_rng _ (by decide) (by decide)
 ·exact stX_rng _
@[reducible] def cz (c:Cu code):List Value:=[.int .i64 c.i,.int .i64 c.h]
theorem cz_one (c:Cu code):∀ z ∈ cz c,z.oneCell'=true:=by
 intro z hz
 rcases List.mem_cons.1 hz with rfl|hz
 ·rfl
 ·rw [List.mem_singleton.1 hz]; rfl
theorem cz_ok (hc:code.length<=1048576) (c:Cu code):∀ z ∈ cz c,z.oneCell'=true/\okv z:=by
 intro z hz
 have:=c.hi
 rcases List.mem_cons.1 hz with rfl|hz
 ·exact ⟨rfl,by show I64 (c.i:Int); constructor<;>omega⟩
 ·rw [List.mem_singleton.1 hz]; exact ⟨rfl,c.hh⟩
abbrev Dr (f:FuncId) (c c':Cu code) (args:List Dat) (own:Bool) (d:Dat):Prop:=FnC Tryz.prog f .u8 code (cz c) (cz c') args own d
theorem u8_at (hw:Wf (.slice .u8) code) {i:Nat} (h:i < code.length):0<=nu code i/\nu code i<=255:=by
 rw [nu,nth_lt h]; exact hw.2 _ (List.getElem_mem h)
set_option maxHeartbeats 1000000 in
theorem l01Byte_fn (hc:code.length<=1048576) (c:Cu code):Dr 95 c c.next [] false ⟨.int,c.byte⟩:=by
 have hi:=c.hi
 have h1:=c.hh.1
 have h2:=c.hh.2
 have h3:=c.next.hh.1
 have h4:=c.next.hh.2
 have h5:=c.next.hi
 by_cases hlt:c.i < code.length
 ·have e1:c.next.i=c.i+1:=if_pos hlt
  have e2:c.byte=andI (stX (stH c.h)+nu code c.i) 255:=if_pos hlt
  rw [e2]
  refine fnC_enter tabOKW mixes Tryz.func95 rfl rfl _ Tryz.ntmps95 _ Tryz.results95 (by simp) (cz_ok hc _) (cz_one _) fun b u0 hwl hzs hwf=>?_
  have hu:=u8_at hwl hlt
  have hx:=stX_rng (stH c.h)
  unfold stX stH at hx
  have d1:decide ((c.i:Int) < (code.length:Int))=true:=decide_eq_true (by omega)
  have w1:IntKind.i64.wrap ((c.i:Int)+1)=(c.i:Int)+1:=wrap_I64 (by constructor<;>omega)
  have w2:=wrap_I64 (n:=andI (xorI ((IntKind.i64.wrap (IntKind.i64.wrap (c.h * 6364136223846793005)+1442695040888963407)).fdiv (2 ^ 33)) ((IntKind.i64.wrap (IntKind.i64.wrap (c.h * 6364136223846793005)+1442695040888963407)).fdiv (2 ^ 45))) 255+nu code c.i) (by constructor<;>omega)
  try simp (maxSteps:=9^9) only[go_sem]
  repeat refine AI ?_
  try simp (maxSteps:=9^9) only[go_sem,d1,w1,w2,e1]
  repeat refine AI ?_
  and_intros
  all_goals first|rfl|omega
 ·have e1:c.next.i=c.i:=if_neg hlt
  have e2:c.byte=stX (stH c.h):=if_neg hlt
  rw [e2]
  refine fnC_enter tabOKW mixes Tryz.func95 rfl rfl _ Tryz.ntmps95 _ Tryz.results95 (by simp) (cz_ok hc _) (cz_one _) fun b u0 hwl hzs hwf=>?_
  have hx:=stX_rng (stH c.h)
  have d1:decide ((c.i:Int) < (code.length:Int))=false:=decide_eq_false (by omega)
  try simp (maxSteps:=9^9) only[go_sem]
  repeat refine AI ?_
  try simp (maxSteps:=9^9) only[go_sem,d1]
  repeat refine AI ?_
  try simp (maxSteps:=9^9) only[go_sem,e1]
  and_intros
  all_goals first|rfl|omega
def Cu.below (c:Cu code) (n:Int):Int:=c.byte % n
theorem Cu.below_rng (c:Cu code) {n:Int} (h:1<=n):0<=c.below n/\c.below n < n:=⟨Int.emod_nonneg _ (by omega),Int.emod_lt_of_pos _ (by omega)⟩
theorem l01Below_fn (hc:code.length<=1048576) (c:Cu code) (n:Int) (h:1<=n/\n<=256):Dr 93 c c.next [⟨.int,n⟩] false ⟨.int,c.below n⟩:=by
 have hb:=c.byte_rng
 have d1:decide (n<=0)=false:=decide_eq_false (by omega)
 have d2:decide (n<=256)=true:=decide_eq_true (by omega)
 refine fnC_enter tabOK mixes Tryz.func93 rfl rfl _ Tryz.ntmps93 _ Tryz.results93 (by simp) (cz_ok hc _) (cz_one _) fun b u0 hwl hzs hwf=>?_
 try simp (maxSteps:=9^9) only[go_sem,d1,d2]
 repeat refine AI ?_
 refine CallW.c false (l01Byte_fn hc c) ?_
 try simp (maxSteps:=9^9) only[go_sem]
 refine RemW.pos hb.1 (by omega) ?_
 try simp (maxSteps:=9^9) only[go_sem]
 rfl
theorem l01Once_fn (hc:code.length<=1048576) (c:Cu code) (n:Int) (h:1<=n/\n<=256):Dr 126 c c.next [⟨.int,n⟩] false ⟨.bool,decide (c.below n=0)⟩:=by
 refine fnC_enter tabOK mixes Tryz.func126 rfl rfl _ Tryz.ntmps126 _ Tryz.results126 (by simp) (cz_ok hc _) (cz_one _) fun b u0 hwl hzs hwf=>?_
 try simp (maxSteps:=9^9) only[go_sem]
 repeat refine AI ?_
 refine CallW.c false (l01Below_fn hc c n h) ?_
 try simp (maxSteps:=9^9) only[go_sem]
def h0 (code:List Int):Nat->Int
 | 0=>1952+code.length
 | k+1=>andI (h0 code k * 61+nu code k+7) 1073741823
theorem h0_rng (hc:code.length<=1048576) (k:Nat):0<=h0 code k/\h0 code k<=1073741823:=by
 cases k with
 | zero=>show 0<=1952+(code.length:Int)/\1952+(code.length:Int)<=1073741823; omega
 | succ k=>exact andI_rng _ (by decide) (by decide)
def Cu.new (code:List Int) (hc:code.length<=1048576):Cu code:=⟨0,h0 code (min code.length 4000),Nat.zero_le _,by have:=h0_rng hc (min code.length 4000); constructor<;>omega⟩
theorem l01New_fn (hc:code.length<=1048576):FnN Tryz.prog 68 .u8 code (cz (Cu.new code hc)) []:=by
 refine fnN_enter tabOK mixes Tryz.func68 rfl rfl _ Tryz.ntmps68 _ Tryz.results68 (by simp) (cz_ok hc _) fun u0 hwl hwf=>?_
 try simp (maxSteps:=9^9) only[go_sem]
 repeat refine AI ?_
 refine LoopG.intro _ _ _ (fun i:Nat=>⟨[(0,.fx u0 .u8 code),(3,.sc (.int .i64 (h0 code i))),(4,.sc (.int .i64 i))],[]⟩) (fun i=>i<=code.length/\i<=4000) (fun i=>code.length - i) 0 ?_ ⟨Nat.zero_le _,Nat.zero_le _⟩ ?_
 ·exact WK
 ·rintro i ⟨hi,hi2⟩
  have hr:=h0_rng hc i
  try simp (maxSteps:=9^9) only[go_sem]
  refine GuardW_dec (fun hA=>?_) (fun hA=>?_)
  ·try simp (maxSteps:=9^9) only[go_sem]
   refine CondW_dec (fun hB=>?_) (fun hB=>?_)
   ·have hu:=u8_at hwl (show i < code.length by omega)
    try simp (maxSteps:=9^9) only[go_sem]
    repeat refine AI ?_
    try simp (maxSteps:=9^9) only[go_sem]
    repeat refine AI ?_
    refine LoopK.mk (i+1) ?_ ⟨by omega,by omega⟩ (by omega)
    exact WK
   ·have e:min code.length 4000=i:=by omega
    try simp (maxSteps:=9^9) only[go_sem]
    exact ⟨rfl,by show h0 code i=h0 code (min code.length 4000); rw [e]⟩
  ·have e:min code.length 4000=i:=by omega
   try simp (maxSteps:=9^9) only[go_sem]
   exact ⟨rfl,by show h0 code i=h0 code (min code.length 4000); rw [e]⟩
def Cu.skip (c:Cu code):Nat->Cu code
 | 0=>c
 | k+1=>(c.skip k).next
def Cu.at (code:List Int) (hc:code.length<=1048576) (n:Int):Cu code:=(Cu.new code hc).skip n.toNat
theorem l31New_fn (hc:code.length<=1048576) (n:Int) (hn:0<=n/\n<=1000):FnN Tryz.prog 66 .u8 code (cz (Cu.at code hc n)) [⟨.int,n⟩]:=by
 refine fnN_enter tabOK mixes Tryz.func66 rfl rfl _ Tryz.ntmps66 _ Tryz.results66 (by simp) (cz_ok hc _) fun u0 hwl hwf=>?_
 try simp (maxSteps:=9^9) only[go_sem]
 repeat refine AI ?_
 refine CallW.nb (l01New_fn hc) ?_
 try simp (maxSteps:=9^9) only[go_sem]
 refine LoopG.intro _ _ _ (fun i:Nat=>⟨[(1,.sc (.int .i64 n)),(5,.ptr 0 0),(6,.sc (.int .i64 i))],[(0,.box (.fx u0 .u8 code :: (cz ((Cu.new code hc).skip i)).map fun z=>.sc z))]⟩) (fun i=>(i:Int)<=n) (fun i=>n.toNat - i) 0 ?_ (by omega) ?_
 ·exact WK
 ·rintro i hi
  try simp (maxSteps:=9^9) only[go_sem]
  refine CondW_dec (fun hA=>?_) (fun hA=>?_)
  ·try simp (maxSteps:=9^9) only[go_sem]
   repeat refine AI ?_
   refine CallW.c false (l01Byte_fn hc ((Cu.new code hc).skip i)) ?_
   try simp (maxSteps:=9^9) only[go_sem]
   repeat refine AI ?_
   refine LoopK.mk (i+1) ?_ (by omega) (by omega)
   exact WK
  ·have e:n.toNat=i:=by omega
   try simp (maxSteps:=9^9) only[go_sem]
   unfold Cu.at
   rw [e]
   exact ⟨rfl,rfl⟩
theorem natL_minInt:natL 9223372036854775808=[854775808,223372036,9]:=by
 rw [natL_pos (by decide),natL_pos (by decide),natL_pos (by decide),natL_zero]; rfl
theorem BigIntOf_fn (n:Int):Fn Tryz.prog 153 [⟨.int,n⟩] true [⟨tBig,bigD n⟩]:=by
 by_cases h1:n=-9223372036854775808
 ·subst h1
  have hm:=l03Make_to (s:=true) (n:=9223372036854775808) (z:=-9223372036854775808) rfl (Nat.le_trans (natL_len3 (n:=9223372036854775808) (by decide)) (by decide))
  rw [natL_minInt] at hm
  refine fe Tryz.func153 Tryz.ntmps153 Tryz.results153 fun hwf=>?_
  try simp (maxSteps:=9^9) only[go_sem]
  repeat refine AI ?_
  refine cw hm ?_
  try simp (maxSteps:=9^9) only[go_sem]
  all_goals repeat refine AI ?_
  all_goals first|kernel_rfl|omega|rfl
 ·refine fe Tryz.func153 Tryz.ntmps153 Tryz.results153 fun hwf=>?_
  have hI:I64 n:=hwf ⟨.int,n⟩ (by simp)
  have hI1:=hI.1
  have hI2:=hI.2
  try simp (maxSteps:=9^9) only[go_sem]
  refine CondW_dec (fun h=>absurd h h1) (fun _=>?_)
  try simp (maxSteps:=9^9) only[go_sem]
  refine CondW_dec (fun hn=>?_) (fun hn=>?_)
  ·have hm:=l03Make_to (s:=true) (n:=(-n).toNat) (z:=n) (by unfold sgn; simp; omega) (Nat.le_trans (natL_len3 (n:=-n) (by omega)) (by decide))
   try simp (maxSteps:=9^9) only[go_sem]
   repeat refine AI ?_
   repeat refine AI ?_
   refine cw (specNatOf_fn (-n)) ?_
   try simp (maxSteps:=9^9) only[go_sem]
   repeat refine AI ?_
   refine cw hm ?_
   try simp (maxSteps:=9^9) only[go_sem]
   all_goals repeat refine AI ?_
   all_goals first|kernel_rfl|omega|rfl
  ·have hm:=l03Make_to (s:=false) (n:=n.toNat) (z:=n) (by unfold sgn; simp; omega) (Nat.le_trans (natL_len3 (n:=n) (by omega)) (by decide))
   try simp (maxSteps:=9^9) only[go_sem]
   repeat refine AI ?_
   refine cw (specNatOf_fn n) ?_
   try simp (maxSteps:=9^9) only[go_sem]
   repeat refine AI ?_
   refine cw hm ?_
   try simp (maxSteps:=9^9) only[go_sem]
   all_goals repeat refine AI ?_
   all_goals first|kernel_rfl|omega|rfl
def ratI (n:Int):DR:=(bigD n,[1])
theorem ratI_eq (n:Int):ratI n=ratD (n:Rat):=by
 rw [ratI,ratD,Rat.num_intCast,Rat.den_intCast,natL_1]
attribute [go_sem] ratI
theorem RatFromInt_fn (n:Int):Fn Tryz.prog 150 [⟨.int,n⟩] true [⟨tRat,ratI n⟩]:=by
 refine fe Tryz.func150 Tryz.ntmps150 Tryz.results150 fun hwf=>?_
 try simp (maxSteps:=9^9) only[go_sem]
 repeat refine AI ?_
 refine cw (BigIntOf_fn n) ?_
 try simp (maxSteps:=9^9) only[go_sem]
 all_goals repeat refine AI ?_
 all_goals first|kernel_rfl|omega|rfl
end Go.Proofs.YtaeckjmkjhffnaaGreatDoor.DW

namespace Go.Proofs.YtaeckjmkjhffnaaGreatDoor
open Go.RowKit in
theorem Has.of {α:Type} {A:Rp α} {w:World} {cs:List Value} {a:α} {fp:List Nat} (h:A.rep w cs a fp):Has A w cs a:=⟨fp,h⟩
end Go.Proofs.YtaeckjmkjhffnaaGreatDoor

namespace Go.Proofs.YtaeckjmkjhffnaaGreatDoor.DW
open Go.RowKit
theorem addO_none_l (y:Option Rat):addO none y=none:=rfl
theorem addO_none_r (x:Option Rat):addO x none=none:=by cases x<;>rfl
theorem specRatAdd_fn (r s:DR):Fn Tryz.prog 127 [⟨tRat,r⟩,⟨tRat,s⟩] true [⟨tRat,oD (addO (rdO r) (rdO s))⟩]:=by
 cases hr:okR r
 ·rw [okR_f hr,addO_none_l]
  refine fe Tryz.func127 Tryz.ntmps127 Tryz.results127 fun hwf=>?_
  try simp (maxSteps:=9^9) only[go_sem]
  repeat refine AI ?_
  refine cw (specRatOk_fn r) ?_
  try simp (maxSteps:=9^9) only[go_sem]
  try simp (maxSteps:=9^9) only[go_sem,hr]
 ·cases hs:okR s
  ·rw [okR_f hs,addO_none_r]
   refine fe Tryz.func127 Tryz.ntmps127 Tryz.results127 fun hwf=>?_
   try simp (maxSteps:=9^9) only[go_sem]
   repeat refine AI ?_
   refine cw (specRatOk_fn r) ?_
   try simp (maxSteps:=9^9) only[go_sem]
   try simp (maxSteps:=9^9) only[go_sem,hr]
   repeat refine AI ?_
   refine cw (specRatOk_fn s) ?_
   try simp (maxSteps:=9^9) only[go_sem]
   try simp (maxSteps:=9^9) only[go_sem,hs]
  ·obtain ⟨p,hp,rfl,e1⟩:=okR_t hr
   obtain ⟨q,hq,rfl,e2⟩:=okR_t hs
   rw [e1,e2]
   have hr':okR ((decide (p.num < 0),natL p.num.natAbs),natL p.den)=true:=hr
   have hs':okR ((decide (q.num < 0),natL q.num.natAbs),natL q.den)=true:=hs
   have e:addO (some p) (some q)=capR (p+q):=rfl
   rw [e]
   refine fe Tryz.func127 Tryz.ntmps127 Tryz.results127 fun hwf=>?_
   try simp (maxSteps:=9^9) only[go_sem]
   repeat refine AI ?_
   refine cw (specRatOk_fn (ratD p)) ?_
   try simp (maxSteps:=9^9) only[go_sem]
   try simp (maxSteps:=9^9) only[go_sem,hr']
   repeat refine AI ?_
   refine cw (specRatOk_fn (ratD q)) ?_
   try simp (maxSteps:=9^9) only[go_sem]
   try simp (maxSteps:=9^9) only[go_sem,hs']
   repeat refine AI ?_
   refine cw (l04Add_fn p q hp hq) ?_
   try simp (maxSteps:=9^9) only[go_sem]
   all_goals repeat refine AI ?_
   all_goals first|kernel_rfl|omega|rfl
end Go.Proofs.YtaeckjmkjhffnaaGreatDoor.DW

namespace Go.Proofs.YtaeckjmkjhffnaaGreatDoor.DW
open Go.RowKit
end Go.Proofs.YtaeckjmkjhffnaaGreatDoor.DW

namespace Go.Proofs.YtaeckjmkjhffnaaGreatDoor.DW
open Go.RowKit
attribute [go_sem] argV
end Go.Proofs.YtaeckjmkjhffnaaGreatDoor.DW

namespace Go.Proofs.YtaeckjmkjhffnaaGreatDoor.DW
open Go.RowKit
end Go.Proofs.YtaeckjmkjhffnaaGreatDoor.DW

namespace Go.Proofs.YtaeckjmkjhffnaaGreatDoor.DW
open Go.RowKit
theorem nl_1 {n:Nat} (h:n < 1000000000):nl n<=1:=by
 have:=nl_small (n:=n) h
 exact this
theorem bigD_pos {d:Int} (hd:0<=d):bigD d=(false,natL d.toNat):=by
 show (decide (d < 0),natL d.natAbs)=_
 rw [decide_eq_false (by omega),show d.natAbs=d.toNat by omega]
theorem mk_div {n d:Int} (hd:1<=d):_root_.mkRat n d.toNat=(n:Rat) / (d:Rat):=by
 rw [Rat.mkRat_eq_div]
 have:((d.toNat:Nat):Rat)=((d:Int):Rat):=by
  have h:((d.toNat:Nat):Int)=d:=by omega
  rw [<-h]; rfl
 rw [this]
theorem neq_f (b:Bool):(!(b == false))=b:=by cases b<;>rfl
theorem RatOfS_fn (n d:Int) (hn:n.natAbs < 1000000000) (hd:1<=d/\d < 1000000000):Fn Tryz.prog 128 [⟨.int,n⟩,⟨.int,d⟩] true [⟨tRat,oD (capR ((n:Rat) / (d:Rat)))⟩]:=by
 have h1:=nl_1 hn
 have h2:=nl_1 (show d.toNat < 1000000000 by omega)
 have c1:=BigIntOf_fn d
 rw [bigD_pos (by omega)] at c1
 have ok1:okB (bigD n)=true:=okB_bigD (by omega)
 have ok2:okB (false,natL d.toNat)=true:=by rw [<-bigD_pos (by omega)]; exact okB_bigD (by rw [show d.natAbs=d.toNat by omega]; omega)
 have o1:=specBigIntOk_fn (bigD n)
 have o2:=specBigIntOk_fn (false,natL d.toNat)
 rw [ok1] at o1
 rw [ok2] at o2
 have hM:Fn Tryz.prog 152 [⟨tBig,bigD n⟩,⟨tBig,(false,natL d.toNat)⟩] true [⟨tRat,oD (capR ((n:Rat) / (d:Rat)))⟩]:=by
  have cl:=l04Low_fn (!(decide (n < 0) == false)) n.natAbs d.toNat (by omega) (by omega) (by omega)
  rw [neq_f,sgn_bigD,mk_div hd.1,<-neq_f (decide (n < 0))] at cl
  refine fe Tryz.func152 Tryz.ntmps152 Tryz.results152 fun hwf=>?_
  try simp (maxSteps:=9^9) only[go_sem]
  repeat refine AI ?_
  refine cw o1 ?_
  try simp (maxSteps:=9^9) only[go_sem]
  repeat refine AI ?_
  refine cw o2 ?_
  try simp (maxSteps:=9^9) only[go_sem]
  repeat refine AI ?_
  repeat refine AI ?_
  refine cw cl ?_
  try simp (maxSteps:=9^9) only[go_sem]
 refine fe Tryz.func128 Tryz.ntmps128 Tryz.results128 fun hwf=>?_
 try simp (maxSteps:=9^9) only[go_sem]
 repeat refine AI ?_
 refine cw (BigIntOf_fn n) ?_
 try simp (maxSteps:=9^9) only[go_sem]
 repeat refine AI ?_
 refine cw c1 ?_
 try simp (maxSteps:=9^9) only[go_sem]
 repeat refine AI ?_
 refine cw hM ?_
 try simp (maxSteps:=9^9) only[go_sem]
def fit (q:Rat):Prop:=q.num.natAbs < 1000000000/\q.den < 1000000000
theorem fit_small {q:Rat} (h:fit q):small q:=by
 have h1:=nl_small h.1
 have h2:=nl_small h.2
 exact ⟨by omega,by omega⟩
theorem cap_fit {q:Rat} (h:fit q):capR q=some q:=capR_s (fit_small h)
theorem fit_int {z:Int} (h:z.natAbs < 1000000000):fit (z:Rat):=⟨h,(by decide:1 < 1000000000)⟩
theorem fit_div {z d:Int} (hz:z.natAbs < 1000000000) (hd:1<=d/\d < 1000000000):fit ((z:Rat) / (d:Rat)):=by
 have e:(z:Rat) / (d:Rat)=_root_.mkRat z d.toNat:=by
  rw [Rat.mkRat_eq_div]
  have h:((d.toNat:Nat):Int)=d:=by omega
  have:((d.toNat:Nat):Rat)=((d:Int):Rat):=by rw [<-h]; rfl
  rw [this]
 rw [e]
 obtain ⟨h1,h2,_⟩:=mk_abs (z:=z) (n:=d.toNat) (by omega)
 unfold fit
 rw [h1,h2]
 have h3:=Nat.div_le_self z.natAbs (Nat.gcd z.natAbs d.toNat)
 have h4:=Nat.div_le_self d.toNat (Nat.gcd z.natAbs d.toNat)
 omega
theorem ok_fit {q:Rat} (h:fit q):okO (some q):=fun p hp=>by injection hp with hp; subst hp; exact fit_small h
theorem rd_fit {q:Rat} (h:fit q):rdO (ratD q)=some q:=rdO_ratD (fit_small h)
theorem okR_fit {q:Rat} (h:fit q):okR (ratD q)=true:=okR_ratD (fit_small h)
theorem add_fit {p q:Rat} (h:fit (p+q)):addO (some p) (some q)=some (p+q):=cap_fit h
section
variable {L G:Nat->Int} {n:Nat}
end
section
variable {l:List DP} {a:Int} {w:List DR} {L G:Nat->Int}
end
theorem half_fit {a:Int} (h:a.natAbs < 1000000000):fit ((a:Rat) / 2):=fit_div (d:=2) h (by decide)
theorem two_c:((2:Int):Rat)=2:=rfl
theorem one_c:((1:Int):Rat)=1:=rfl
def hp (v:Int × Int):DP:=(ratD ((v.1:Rat) / 2),ratD ((v.2:Rat) / 2))
def hpOk (v:Int × Int):Prop:=0<=v.1/\v.1<=100/\0<=v.2/\v.2<=100
section
variable {vs:List (Int × Int)} {a:Int} {lims:List Int}
end
abbrev DV:Type:=Int × Int
end Go.Proofs.YtaeckjmkjhffnaaGreatDoor.DW

namespace Go.Proofs.YtaeckjmkjhffnaaGreatDoor.DW
open Go.RowKit
def ltV (a b:DV):Prop:=a.1 < b.1\/a.1=b.1/\a.2 < b.2
instance (a b:DV):Decidable (ltV a b):=by unfold ltV; infer_instance
end Go.Proofs.YtaeckjmkjhffnaaGreatDoor.DW

namespace Go.Proofs.YtaeckjmkjhffnaaGreatDoor.DW
open Go.RowKit
section
variable {P:Program} {f:FuncId} {fn:Func} {code:Code}
theorem enters (hf:P.funcs[f]? = some fn) (hname:(fn.name == "runtime.NumGoroutine")=false) (hb:fn.body=some code):∀ vs w,(callFunc f vs).run P w=.ok (.enter f vs) w:=by
 intro vs w
 have h1:fn.name ≠ "runtime.NumGoroutine":=by simpa using hname
 simp [callFunc,hf,h1,hb]
theorem drep_int {w:World} {v:Value} {n:Int} {fp:List Nat} (h:DRep w v ⟨.int,n⟩ fp):v=.int .i64 n:=by
 obtain ⟨cs,hp,hr⟩:=h
 rcases hp with ⟨h,_⟩|⟨_,rfl⟩
 ·cases h
 ·exact (List.cons.inj hr.1).1
theorem dres_int {own:Bool} {base:Nat} {S:Nat->Prop} {w:World} {n:Int} (h:I64 n):DRes own base S w (.int .i64 n) ⟨.int,n⟩:=⟨[],⟨[_],.inr ⟨rfl,rfl⟩,rfl,rfl,h⟩,fun _=>ownFp_nil _ _,fun b hb=>by cases hb⟩
theorem dres_bool {own:Bool} {base:Nat} {S:Nat->Prop} {w:World} {n:Bool}:DRes own base S w (.bool n) ⟨.bool,n⟩:=⟨[],⟨[_],.inr ⟨rfl,rfl⟩,rfl,rfl⟩,fun _=>ownFp_nil _ _,fun b hb=>by cases hb⟩
variable (en:∀ vs w,(callFunc f vs).run P w=.ok (.enter f vs) w)
include en
theorem Fn.ofInt {t:Ty} {x:t.den} {n r:Int} (hI:I64 r) (h:∀ w v cs,pk t v cs->Has t.rp w cs x->Calls P f #[v,.int .i64 n] w (Post fun v w'=>v=.int .i64 r/\Below w.heap.size w w')):Fn P f [⟨t,x⟩,⟨.int,n⟩] false [⟨.int,r⟩]:=by
 refine ⟨en,fun w vs S _ ha=>?_⟩
 match vs,ha with
 | [v1,v2],⟨⟨fp1,⟨cs,hp,hr⟩,_⟩,⟨fp2,h2,_⟩,_⟩ =>
  obtain rfl:=drep_int h2
  refine (h w v1 cs hp ⟨fp1,hr⟩).mono fun e w' ⟨v,he,hv,hb⟩=>⟨hb,v,he,?_⟩
  subst hv
  exact dres_int hI
 | [],ha=>exact ha.elim
 | [_],ha=>exact ha.2.elim
 | _ :: _ :: _ :: _,ha=>exact ha.2.2.elim
theorem Fn.ofEq {t:Ty} {x y:t.den} {r:Bool} (h:∀ w v cs u ds,pk t v cs->Has t.rp w cs x->pk t u ds->Has t.rp w ds y->Calls P f #[v,u] w (Post fun v w'=>v=.bool r/\Below w.heap.size w w')):Fn P f [⟨t,x⟩,⟨t,y⟩] false [⟨.bool,r⟩]:=by
 refine ⟨en,fun w vs S _ ha=>?_⟩
 match vs,ha with
 | [v1,v2],⟨⟨fp1,⟨cs,hp,hr⟩,_⟩,⟨fp2,⟨ds,hp2,hr2⟩,_⟩,_⟩ =>
  refine (h w v1 cs v2 ds hp ⟨fp1,hr⟩ hp2 ⟨fp2,hr2⟩).mono fun e w' ⟨v,he,hv,hb⟩=>⟨hb,v,he,?_⟩
  subst hv
  exact dres_bool
 | [],ha=>exact ha.elim
 | [_],ha=>exact ha.2.elim
 | _ :: _ :: _ :: _,ha=>exact ha.2.2.elim
theorem FnM.of {t:Ty} {x x':t.den} {k r:Int} (hI:I64 r) (h:∀ w v cs fp,pk t v cs->t.rp.rep w cs x fp->fp.Nodup->(∀ b ∈ fp,Free w b)->Calls P f #[v,.int .i64 k] w (Post (MarkPost t.rp cs x' fp r w))):FnM P f t x x' k r:=⟨en,hI,h⟩
end
theorem pk_agg {t:Ty} {v:Value} {cs:List Value} (ht:t.isAgg=true) (h:pk t v cs):v=.agg cs.toArray:=by
 rcases h with ⟨_,h⟩|⟨h,_⟩
 ·exact h
 ·rw [ht] at h; cases h
@[go_sem] theorem ex_row {i ver:Nat} {p:Nat->Prop}:(∃ k,AV.row i ver=AV.row k ver/\p k)=p i:=propext ⟨fun ⟨k,e,h⟩=>by injection e with e; exact e ▸ h,fun h=>⟨i,rfl,h⟩⟩
@[go_sem] theorem eqb_self {α:Type} (a:α):eqb a a=true:=eqb_true rfl
end Go.Proofs.YtaeckjmkjhffnaaGreatDoor.DW

namespace Go.Proofs.YtaeckjmkjhffnaaGreatDoor
open Go.RowKit
section
variable {o:Bool} {base:Nat} {w w':World} {e:TypeId} {v:Value} {l:List Int}
theorem GrowInt.row (h:Grow Rp.int o base w e v l):w.ownsRow base e 1 v l.length (l.map (Value.int .i64))/\∀ x ∈ l,I64 x:=by
 obtain ⟨xs,fps,ho,hl,he,_,_⟩:=h
 have hxl:xs.length=l.length:=by have:=ho.1; simpa [Rp.int] using this
 have hall:∀ (i:Nat) (x:Int),l[i]? = some x->xs[i]? = some (Value.int .i64 x)/\I64 x:=by
  intro i x hx
  obtain ⟨f,cs,_,hr,hc⟩:=he i x hx
  obtain ⟨rfl,_,hI⟩:=hr
  exact ⟨by simpa [Rp.int] using hc 0 _ rfl,hI⟩
 have hxs:xs=l.map (Value.int .i64):=by
  apply List.ext_getElem?
  intro i
  rw [List.getElem?_map]
  rcases Nat.lt_or_ge i l.length with hi|hi
  ·have:=(hall i l[i] (List.getElem?_eq_getElem hi)).1
   rw [this,List.getElem?_eq_getElem hi]; rfl
  ·rw [List.getElem?_eq_none (by omega),List.getElem?_eq_none hi]; rfl
 refine ⟨hxs ▸ ho,fun x hx=>?_⟩
 obtain ⟨i,hi,rfl⟩:=List.getElem_of_mem hx
 exact (hall i _ (List.getElem?_eq_getElem hi)).2
theorem flatten_nils (n:Nat):(List.replicate n ([]:List Nat)).flatten=[]:=by
 induction n with
 | zero=>rfl
 | succ n ih=>simp
theorem GrowInt.of (h:w.ownsRow base e 1 v l.length (l.map (Value.int .i64))) (hI:∀ x ∈ l,I64 x):Grow Rp.int o base w e v l:=by
 refine ⟨l.map (Value.int .i64),List.replicate l.length [],h,by simp,fun i x hx=>?_,fun b hb=>?_,fun _=>⟨?_,fun b hb=>?_⟩⟩
 ·have hi:=(List.getElem?_eq_some_iff.1 hx).1
  refine ⟨[],[.int .i64 x],by simp [hi],⟨rfl,rfl,hI x (List.mem_of_getElem? hx)⟩,fun j c hc=>?_⟩
  cases j with
  | zero=>simp at hc; subst hc; simp [Rp.int,hx]
  | succ j=>simp at hc
 ·rw [flatten_nils] at hb; cases hb
 ·rw [flatten_nils]; exact List.nodup_nil
 ·rw [flatten_nils] at hb; cases hb
end
section
variable {P:Program} (w:World)
end
theorem GrowInt.keep {o:Bool} {base:Nat} {w w':World} {e:TypeId} {v:Value} {l:List Int} (h:Grow Rp.int o base w e v l) {row:Option Nat} (hgr:w.grownBy w' row) (hne:∀ k,v.ownBlock=some k->some k ≠ row):Grow Rp.int o base w' e v l:=by
 obtain ⟨h1,h2⟩:=GrowInt.row h
 refine GrowInt.of (h1.kept hgr ?_) h2
 cases hv:v.ownBlock with
 | none=>exact .inl rfl
 | some k=>exact .inr (hne k hv)
end Go.Proofs.YtaeckjmkjhffnaaGreatDoor

namespace Go.Proofs.YtaeckjmkjhffnaaGreatDoor
open Go.RowKit
def New {α:Type} (A:Rp α) (base:Nat) (w:World) (cs:List Value) (a:α):Prop:=∃ fp,A.rep w cs a fp/\∀ b ∈ fp,base<=b
theorem Own.new {α:Type} {A:Rp α} {base:Nat} {w:World} {cs:List Value} {a:α} (h:Own A base w cs a):New A base w cs a:=let ⟨fp,hr,_,ho⟩:=h; ⟨fp,hr,fun b hb=>(ho b hb).1⟩
theorem New.has {α:Type} {A:Rp α} {base:Nat} {w:World} {cs:List Value} {a:α} (h:New A base w cs a):Has A w cs a:=let ⟨fp,hr,_⟩:=h; ⟨fp,hr⟩
theorem New.below {α:Type} {A:Rp α} {base:Nat} {w w':World} {cs:List Value} {a:α} (h:New A base w cs a) (hb:Below w.heap.size w w'):New A base w' cs a :=
 let ⟨fp,hr,ho⟩:=h; ⟨fp,A.frame hr fun b hb'=>hb.block b (A.lt hr b hb'),ho⟩
theorem New.mono {α:Type} {A:Rp α} {base base':Nat} {w:World} {cs:List Value} {a:α} (h:New A base w cs a) (hb:base'<=base):New A base' w cs a:=let ⟨fp,hr,ho⟩:=h; ⟨fp,hr,fun b hb'=>Nat.le_trans hb (ho b hb')⟩
theorem New.frame {α:Type} {A:Rp α} {base:Nat} {w w':World} {cs:List Value} {a:α} (h:New A base w cs a) (hf:∀ b,base<=b->b < w.heap.size->w'.heap[b]? = w.heap[b]?):New A base w' cs a :=
 let ⟨fp,hr,ho⟩:=h; ⟨fp,A.frame hr fun b hb'=>hf b (ho b hb') (A.lt hr b hb'),ho⟩
theorem New.setCell {α:Type} {A:Rp α} {base:Nat} {w:World} {cs:List Value} {a:α} (h:New A base w cs a) {p:Addr} (hp:p.block < base) (v:Value):New A base (w.setCell p v) cs a :=
 h.frame fun b h1 _=>Below.heap_setCell _ _ _ _ (by omega)
theorem New.bool (base:Nat) (w:World) (b:Bool):New Rp.bool base w [.bool b] b:=⟨[],⟨rfl,rfl⟩,fun _ h=>by cases h⟩
theorem New.int (base:Nat) (w:World) {n:Int} (h:I64 n):New Rp.int base w [.int .i64 n] n:=⟨[],⟨rfl,rfl,h⟩,fun _ h=>by cases h⟩
theorem Has.ofInt (w:World) {n:Int} (h:I64 n):Has Rp.int w [.int .i64 n] n:=⟨[],rfl,rfl,h⟩
end Go.Proofs.YtaeckjmkjhffnaaGreatDoor

namespace Go.Proofs.YtaeckjmkjhffnaaGreatDoor
open Go.RowKit DW
end Go.Proofs.YtaeckjmkjhffnaaGreatDoor

namespace Go.Proofs.YtaeckjmkjhffnaaGreatDoor.DW
open Go.RowKit
def ptV (v:DV):DP:=(ratI v.1,ratI v.2)
theorem PointOfS_fn (v:DV):Fn Tryz.prog 125 [⟨tVec,v⟩] true [⟨tPoint,ptV v⟩]:=by
 have c1:=RatFromInt_fn v.1
 have c2:=RatFromInt_fn v.2
 unfold ptV
 refine fe Tryz.func125 Tryz.ntmps125 Tryz.results125 fun hwf=>?_
 try simp (maxSteps:=9^9) only[go_sem]
 repeat refine AI ?_
 refine cw c1 ?_
 try simp (maxSteps:=9^9) only[go_sem]
 repeat refine AI ?_
 refine cw c2 ?_
 try simp (maxSteps:=9^9) only[go_sem]
 all_goals repeat refine AI ?_
 all_goals first|kernel_rfl|omega|rfl
variable {code:List Int}
def atK (c:Cu code):Int × Int:=(2 * (1+c.below 22)+(if c.next.next.below 2=0 then 1 else 0),2 * (1+c.next.below 18))
theorem atK_ok (c:Cu code):hpOk (atK c):=by
 have h1:=c.below_rng (n:=22) (by decide)
 have h2:=c.next.below_rng (n:=18) (by decide)
 unfold hpOk atK
 simp only
 split<;>omega
theorem ratI_half (x:Int):ratI x=ratD (((2 * x:Int):Rat) / 2):=by
 rw [ratI_eq]
 refine congrArg ratD ?_
 rw [Rat.intCast_mul,two_c]; grind
theorem half_up (x:Int):(x:Rat)+((1:Int):Rat) / ((2:Int):Rat)=((2 * x+1:Int):Rat) / 2:=by
 rw [Rat.intCast_add,Rat.intCast_mul,two_c,one_c]; grind
theorem l11At_fn (hc:code.length<=1048576) (c:Cu code):Dr 94 c c.next.next.next [] true ⟨tPoint,hp (atK c)⟩:=by
 have h1:=c.below_rng (n:=22) (by decide)
 have h2:=c.next.below_rng (n:=18) (by decide)
 have cp:=PointOfS_fn (1+c.below 22,1+c.next.below 18)
 have cr:=RatOfS_fn 1 2 (by decide) (by decide)
 have hh:fit (((1:Int):Rat) / ((2:Int):Rat)):=fit_div (by decide) (by decide)
 rw [cap_fit hh] at cr
 have ca:=specRatAdd_fn (ptV (1+c.below 22,1+c.next.below 18)).1 (oD (some (((1:Int):Rat) / ((2:Int):Rat))))
 rw [show rdO (ptV (1+c.below 22,1+c.next.below 18)).1=some ((1+c.below 22:Int):Rat) by rw [show (ptV (1+c.below 22,1+c.next.below 18)).1=ratI (1+c.below 22) from rfl,ratI_eq]; exact rd_fit (fit_int (by omega)),rdO_oD (ok_fit hh),add_fit (by rw [half_up]; exact half_fit (by omega)),half_up] at ca
 by_cases hb:c.next.next.below 2=0
 ·have e:hp (atK c)=(oD (some (((2 * (1+c.below 22)+1:Int):Rat) / 2)),(ptV (1+c.below 22,1+c.next.below 18)).2):=by
   have e1:(ptV (1+c.below 22,1+c.next.below 18)).2=ratD (((2 * (1+c.next.below 18):Int):Rat) / 2):=ratI_half _
   rw [e1]; unfold atK; rw [if_pos hb]; rfl
  rw [e]
  refine fnC_enter tabOK mixes Tryz.func94 rfl rfl _ Tryz.ntmps94 _ Tryz.results94 (by simp) (cz_ok hc _) (cz_one _) fun b u0 hwl hzs hwf=>?_
  try simp (maxSteps:=9^9) only[go_sem]
  repeat refine AI ?_
  refine CallW.c false (l01Below_fn hc c 22 (by omega)) ?_
  try simp (maxSteps:=9^9) only[go_sem]
  repeat refine AI ?_
  repeat refine AI ?_
  refine CallW.c false (l01Below_fn hc c.next 18 (by omega)) ?_
  try simp (maxSteps:=9^9) only[go_sem]
  repeat refine AI ?_
  repeat refine AI ?_
  refine cw cp ?_
  try simp (maxSteps:=9^9) only[go_sem]
  repeat refine AI ?_
  refine CallW.c false (l01Once_fn hc c.next.next 2 (by omega)) ?_
  try simp (maxSteps:=9^9) only[go_sem]
  refine CondW_dec (fun hB=>?_) (fun hB=>absurd hb hB)
  try simp (maxSteps:=9^9) only[go_sem]
  repeat refine AI ?_
  repeat refine AI ?_
  refine cw cr ?_
  try simp (maxSteps:=9^9) only[go_sem]
  repeat refine AI ?_
  refine cw ca ?_
  try simp (maxSteps:=9^9) only[go_sem]
  all_goals repeat refine AI ?_
  all_goals first|kernel_rfl|omega|rfl
 ·have e:hp (atK c)=ptV (1+c.below 22,1+c.next.below 18):=by
   unfold atK; rw [if_neg hb,Int.add_zero]
   unfold ptV hp
   rw [ratI_half,ratI_half]
  rw [e]
  refine fnC_enter tabOK mixes Tryz.func94 rfl rfl _ Tryz.ntmps94 _ Tryz.results94 (by simp) (cz_ok hc _) (cz_one _) fun b u0 hwl hzs hwf=>?_
  try simp (maxSteps:=9^9) only[go_sem]
  repeat refine AI ?_
  refine CallW.c false (l01Below_fn hc c 22 (by omega)) ?_
  try simp (maxSteps:=9^9) only[go_sem]
  repeat refine AI ?_
  repeat refine AI ?_
  refine CallW.c false (l01Below_fn hc c.next 18 (by omega)) ?_
  try simp (maxSteps:=9^9) only[go_sem]
  repeat refine AI ?_
  repeat refine AI ?_
  refine cw cp ?_
  try simp (maxSteps:=9^9) only[go_sem]
  repeat refine AI ?_
  refine CallW.c false (l01Once_fn hc c.next.next 2 (by omega)) ?_
  try simp (maxSteps:=9^9) only[go_sem]
  refine CondW_dec (fun hB=>absurd hB hb) (fun hB=>?_)
  try simp (maxSteps:=9^9) only[go_sem]
  all_goals repeat refine AI ?_
  all_goals first|kernel_rfl|omega|rfl
end Go.Proofs.YtaeckjmkjhffnaaGreatDoor.DW

namespace Go.Proofs.YtaeckjmkjhffnaaGreatDoor.DW
open Go.RowKit
end Go.Proofs.YtaeckjmkjhffnaaGreatDoor.DW

namespace Go.Proofs.YtaeckjmkjhffnaaGreatDoor
open Go.RowKit
set_option maxHeartbeats 400000 in
theorem slicesEqual_any (va vb:Value) (a b:DIntS) (w:World) (ha:Has RIntS w [va] a) (hb:Has RIntS w [vb] b) :
  Calls Tryz.prog 99 #[va,vb] w (Post (EqPost a b w)):=by
 obtain ⟨aa,ca,rfl,la,ma,ga⟩:=ha.elems
 obtain ⟨ab,cb,rfl,lb,mb,gb⟩:=hb.elems
 unfold maxLen at ma mb
 have HA:=Lib.hid ga; have HB:=Lib.hid gb; clear ga gb ha hb
 by_cases hl:a.length=b.length
 rotate_left
 ·have hn:((a.length:Int) != (b.length:Int))=true:=by simp; omega
  have HL:=Lib.hid hl; clear hl
  go_enter Tryz.func99,Tryz.ntmps99
  go_wp2
  go_ret
  exact ⟨_,rfl,congrArg Value.bool (eqb_false fun h=>HL.out (by rw [h])).symm,Below.refl _ _⟩
 have hn:((a.length:Int) != (b.length:Int))=false:=by simp; omega
 have HL:=Lib.hid hl; clear hl
 go_enter Tryz.func99,Tryz.ntmps99
 go_wp2
 go_loopw [13] (fun i wr=>∃ k:Nat,k<=a.length/\i=.int .i64 k/\a.take k=b.take k/\Below w.heap.size w wr) (fun i _=>a.length - (intOf i).toNat)
 case atStart=>exact ⟨0,Nat.zero_le _,rfl,rfl,Below.refl _ _⟩
 case round =>
  obtain ⟨k,hk,rfl,htk,hbw⟩:=hrel
  have HT:=Lib.hid htk; clear htk
  by_cases hlt:k < a.length
  rotate_left
  ·go_wp2
   go_ret
   exact ⟨_,rfl,congrArg Value.bool (eqb_true (by have h1:=HT.out; have h2:=HL.out; rwa [List.take_of_length_le (by omega),List.take_of_length_le (by omega)] at h1)).symm,hbw⟩
  have hlt':k < b.length:=by have:=HL.out; omega
  obtain ⟨b1,o1,cs1,rfl,hbl,hx,hcs⟩:=HA.out k hlt
  obtain ⟨b2,o2,cs2,rfl,hbl2,hy,hds⟩:=HB.out k hlt'
  obtain ⟨c0,rfl⟩:=list1 hx.len
  obtain ⟨d0,rfl⟩:=list1 hy.len
  obtain rfl:=hx.int.1
  obtain rfl:=hy.int.1
  have g0:wr.cell? ⟨b1,o1+k,none⟩=some (.int .i64 a[k]):=(hbw.cell (p:=⟨b1,_,none⟩) hbl).trans (by simpa [Rp.int] using hcs 0 _ rfl)
  have e0:wr.cell? ⟨b2,o2+k,none⟩=some (.int .i64 b[k]):=(hbw.cell (p:=⟨b2,_,none⟩) hbl2).trans (by simpa [Rp.int] using hds 0 _ rfl)
  clear hcs hds hx hy
  by_cases hab:a[k]=b[k]
  ·have hn:(a[k] != b[k])=false:=by simp [hab]
   have HAB:=Lib.hid hab; clear hab
   go_wp2
   go_quiet (fail)
   go_wp2
   go_roundw
   case rel=>exact ⟨k+1,by omega,by go_num,by rw [List.take_succ_eq_append_getElem hlt,List.take_succ_eq_append_getElem hlt',HT.out,HAB.out],hbw.drewN _⟩
   case measure=>simp [intOf]; omega
  ·have hn:(a[k] != b[k])=true:=by simp [hab]
   have HAB:=Lib.hid hab; clear hab
   go_wp2
   go_quiet (fail)
   go_wp2
   go_ret
   exact ⟨_,rfl,congrArg Value.bool (eqb_false fun h=>HAB.out (by subst h; rfl)).symm,hbw.drewN _⟩
set_option maxHeartbeats 400000 in
theorem implRatEqual_any (c0 c1 c2 d0 d1 d2:Value) (x y:DRat) (w:World) (hx:Has RRat w [c0,c1,c2] x) (hy:Has RRat w [d0,d1,d2] y) :
  Calls Tryz.prog 71 #[.agg #[c0,c1,c2],.agg #[d0,d1,d2]] w (Post (EqPost x y w)):=by
 obtain ⟨hx0,hx1⟩:=hx.split [c0,c1] [c2] rfl
 obtain ⟨hx00,hx01⟩:=hx0.split [c0] [c1] rfl
 obtain ⟨hy0,hy1⟩:=hy.split [d0,d1] [d2] rfl
 obtain ⟨hy00,hy01⟩:=hy0.split [d0] [d1] rfl
 obtain rfl:=hx00.bool
 obtain rfl:=hy00.bool
 have HX1:=Lib.hid hx1; have HX2:=Lib.hid hx01; have HY1:=Lib.hid hy1; have HY2:=Lib.hid hy01
 clear hx hy hx0 hx1 hy0 hy1 hx00 hx01 hy00 hy01
 have hb0:=((Below.refl w.heap.size w).alloc (Nat.le_refl _) (Obj.cells #[.bool x.1.1,c1,c2] 35)).alloc (by simp<;>omega) (Obj.cells #[.bool y.1.1,d1,d2] 35)
 by_cases he0:x.1.1=y.1.1
 rotate_left
 ·have hn:(x.1.1 == y.1.1)=false:=by simp [he0]
  have HN:=Lib.hid he0; clear he0
  go_enter Tryz.func71,Tryz.ntmps71
  go_wp2
  go_ret
  exact ⟨_,rfl,congrArg Value.bool (eqb_false fun h=>HN.out (by rw [h])).symm,hb0⟩
 have hn0:(x.1.1 == y.1.1)=true:=by simp [he0]
 have HE0:=Lib.hid he0; clear he0
 go_enter Tryz.func71,Tryz.ntmps71
 go_wp2_with fail
 refine (slicesEqual_any _ _ _ _ _ (HX2.out.below hb0) (HY2.out.below hb0)).mono ?_
 rintro e w1 ⟨v,rfl,rfl,hbx1⟩
 have hb1:=Below.up hb0 hbx1 hb0.size
 obtain ⟨hc1,hf1⟩:=bcell hbx1
 by_cases he1:x.1.2=y.1.2
 rotate_left
 ·rw [eqb_false he1]
  have HN:=Lib.hid he1; clear he1
  go_wp2
  go_ret
  exact ⟨_,rfl,congrArg Value.bool (eqb_false fun h=>HN.out (by rw [h])).symm,hb1⟩
 rw [eqb_true he1]
 have HE1:=Lib.hid he1; clear he1
 go_wp2_with fail
 refine (slicesEqual_any _ _ _ _ _ (HX1.out.below hb1) (HY1.out.below hb1)).mono ?_
 rintro e w2 ⟨v,rfl,rfl,hbx2⟩
 have hb2:=Below.up hb1 hbx2 hb1.size
 by_cases he2:x.2=y.2
 rotate_left
 ·rw [eqb_false he2]
  have HN:=Lib.hid he2; clear he2
  go_wp2
  go_ret
  exact ⟨_,rfl,congrArg Value.bool (eqb_false fun h=>HN.out (by rw [h])).symm,hb2⟩
 rw [eqb_true he2]
 have HE2:=Lib.hid he2; clear he2
 go_wp2
 go_ret
 exact ⟨_,rfl,congrArg Value.bool (eqb_true (Prod.ext (Prod.ext HE0.out HE1.out) HE2.out)).symm,hb2⟩
set_option maxHeartbeats 400000 in
theorem implSamePoint_any (c0 c1 c2 c3 c4 c5 d0 d1 d2 d3 d4 d5:Value) (x y:DPoint) (w:World) (hx:Has RPoint w [c0,c1,c2,c3,c4,c5] x) (hy:Has RPoint w [d0,d1,d2,d3,d4,d5] y) :
  Calls Tryz.prog 36 #[.agg #[c0,c1,c2,c3,c4,c5],.agg #[d0,d1,d2,d3,d4,d5]] w (Post (EqPost x y w)):=by
 obtain ⟨hx0,hx1⟩:=hx.split [c0,c1,c2] [c3,c4,c5] rfl
 obtain ⟨hy0,hy1⟩:=hy.split [d0,d1,d2] [d3,d4,d5] rfl
 have HX0:=Lib.hid hx0; have HX1:=Lib.hid hx1; have HY0:=Lib.hid hy0; have HY1:=Lib.hid hy1
 clear hx hy hx0 hx1 hy0 hy1
 have hb0:=((Below.refl w.heap.size w).alloc (Nat.le_refl _) (Obj.cells #[c0,c1,c2,c3,c4,c5] 37)).alloc (by simp<;>omega) (Obj.cells #[d0,d1,d2,d3,d4,d5] 37)
 go_enter Tryz.func36,Tryz.ntmps36
 go_wp2_with fail
 refine (implRatEqual_any _ _ _ _ _ _ _ _ _ (HX0.out.below hb0) (HY0.out.below hb0)).mono ?_
 rintro e w1 ⟨v,rfl,rfl,hbx1⟩
 have hb1:=Below.up hb0 hbx1 hb0.size
 obtain ⟨hc1,hf1⟩:=bcell hbx1
 by_cases he1:x.1=y.1
 rotate_left
 ·rw [eqb_false he1]
  have HN:=Lib.hid he1; clear he1
  go_wp2
  go_ret
  exact ⟨_,rfl,congrArg Value.bool (eqb_false fun h=>HN.out (by rw [h])).symm,hb1⟩
 rw [eqb_true he1]
 have HE1:=Lib.hid he1; clear he1
 go_wp2_with fail
 refine (implRatEqual_any _ _ _ _ _ _ _ _ _ (HX1.out.below hb1) (HY1.out.below hb1)).mono ?_
 rintro e w2 ⟨v,rfl,rfl,hbx2⟩
 have hb2:=Below.up hb1 hbx2 hb1.size
 by_cases he2:x.2=y.2
 rotate_left
 ·rw [eqb_false he2]
  have HN:=Lib.hid he2; clear he2
  go_wp2
  go_ret
  exact ⟨_,rfl,congrArg Value.bool (eqb_false fun h=>HN.out (by rw [h])).symm,hb2⟩
 rw [eqb_true he2]
 have HE2:=Lib.hid he2; clear he2
 go_wp2
 go_ret
 exact ⟨_,rfl,congrArg Value.bool (eqb_true (Prod.ext HE1.out HE2.out)).symm,hb2⟩
end Go.Proofs.YtaeckjmkjhffnaaGreatDoor

namespace Go.Proofs.YtaeckjmkjhffnaaGreatDoor
open Go.RowKit
end Go.Proofs.YtaeckjmkjhffnaaGreatDoor

namespace Go.Proofs.YtaeckjmkjhffnaaGreatDoor
open Go.RowKit
end Go.Proofs.YtaeckjmkjhffnaaGreatDoor

namespace Go.Proofs.YtaeckjmkjhffnaaGreatDoor.DW
open Go.RowKit
@[go_sem] theorem mkBigInt_sc0 (x:DBigInt) (k:Int):(mkBigInt x k).1=x.1:=(rfl)
@[go_sem] theorem mkRat_sc0 (x:DRat) (k:Int):(mkRat x k).1.1=x.1.1:=(rfl)
@[go_sem] theorem mkPoint_sc0 (x:DPoint) (k:Int):(mkPoint x k).1.1.1=x.1.1.1:=(rfl)
@[go_sem] theorem mkPoint_sc1 (x:DPoint) (k:Int):(mkPoint x k).2.1.1=x.2.1.1:=(rfl)
@[go_sem] theorem mkPlacement_sc0 (x:DPlacement) (k:Int):(mkPlacement x k).1=x.1:=(rfl)
@[go_sem] theorem mkPlacement_sc1 (x:DPlacement) (k:Int):(mkPlacement x k).2.1.1.1=x.2.1.1.1:=(rfl)
@[go_sem] theorem mkPlacement_sc2 (x:DPlacement) (k:Int):(mkPlacement x k).2.2.1.1=x.2.2.1.1:=(rfl)
theorem implSame_fn (p q:DP):Fn Tryz.prog 36 [⟨tPoint,p⟩,⟨tPoint,q⟩] false [⟨.bool,eqb p q⟩]:=by
 refine Fn.ofEq (enters Tryz.func36 rfl rfl) fun w v cs u ds hp hx hq hy=>?_
 obtain rfl:=pk_agg rfl hp
 obtain ⟨c0,c1,c2,c3,c4,c5,rfl⟩:=list6 hx.len
 obtain rfl:=pk_agg rfl hq
 obtain ⟨d0,d1,d2,d3,d4,d5,rfl⟩:=list6 hy.len
 exact implSamePoint_any _ _ _ _ _ _ _ _ _ _ _ _ p q w hx hy
theorem eqb_step (x y:DS):eqb x y=(decide (x.1=y.1) && eqb x.2 y.2):=by
 by_cases h1:x.1=y.1
 ·by_cases h2:x.2=y.2
  ·rw [eqb_true (Prod.ext h1 h2),decide_eq_true h1,eqb_true h2]; rfl
  ·rw [eqb_false (fun h=>h2 (by rw [h])),decide_eq_true h1,eqb_false h2]; rfl
 ·rw [eqb_false (fun h=>h1 (by rw [h])),decide_eq_false h1]; rfl
set_option maxHeartbeats 1000000 in
theorem sameStepsC_fn (x y:DS):Fn Tryz.prog 73 [⟨tStep,x⟩,⟨tStep,y⟩] false [⟨.bool,eqb x y⟩]:=by
 have c1:=implSame_fn x.2 y.2
 rw [eqb_step]
 by_cases h:x.1=y.1
 ·have d:=decide_eq_true h
  rw [d]
  refine fe Tryz.func73 Tryz.ntmps73 Tryz.results73 fun hwf=>?_
  try simp (maxSteps:=9^9) only[go_sem]
  repeat refine AI ?_
  try simp (maxSteps:=9^9) only[go_sem,d]
  repeat refine AI ?_
  repeat refine AI ?_
  refine cw c1 ?_
  try simp (maxSteps:=9^9) only[go_sem]
  all_goals repeat refine AI ?_
  all_goals first|kernel_rfl|omega|rfl
 ·have d:=decide_eq_false h
  rw [d]
  refine fe Tryz.func73 Tryz.ntmps73 Tryz.results73 fun hwf=>?_
  try simp (maxSteps:=9^9) only[go_sem]
  repeat refine AI ?_
  try simp (maxSteps:=9^9) only[go_sem,d]
  all_goals repeat refine AI ?_
  all_goals first|kernel_rfl|omega|rfl
set_option maxHeartbeats 1000000 in
theorem eqFunc_step_fn (F:FuncId) (hF:∀ x y:DS,Fn Tryz.prog F [⟨tStep,x⟩,⟨tStep,y⟩] false [⟨.bool,eqb x y⟩]) (a b:List DS):Fn Tryz.prog 72 [⟨.slice tStep,a⟩,⟨.slice tStep,b⟩,⟨.cst (.fn F),()⟩] false [⟨.bool,eqb a b⟩]:=by
 by_cases h0:(a.length:Int)=b.length
 ·have d0:=decide_eq_true h0
  refine fe Tryz.func72 Tryz.ntmps72 Tryz.results72 fun hwf=>?_
  have hl:a.length<=9223372036854775807:=(hwf ⟨.slice tStep,a⟩ (by simp)).1
  try simp (maxSteps:=9^9) only[go_sem,d0]
  refine LoopG.intro _ _ _ (fun i:Nat=>⟨[(1,.sl tStep b),(2,.sc (.func (.func F) #[] #[])),(15,.sl tStep a),(16,.sc (.int .i64 a.length)),(17,.sc (.int .i64 i))],[]⟩) (fun i=>∀ j,j < i->j < a.length->nth (t:=tStep) a j=nth (t:=tStep) b j) (fun i=>a.length - i) 0 ?_ (fun j h=>absurd h (Nat.not_lt_zero _)) ?_
  ·exact WK
  ·rintro i hi
   try simp (maxSteps:=9^9) only[go_sem]
   refine CondW_dec (fun hA=>?_) (fun hA=>?_)
   ·have c1:=hF (nth (t:=tStep) a i) (nth (t:=tStep) b i)
    by_cases e:nth (t:=tStep) a i=nth (t:=tStep) b i
    ·rw [eqb_true e] at c1
     try simp (maxSteps:=9^9) only[go_sem]
     repeat refine AI ?_
     repeat refine AI ?_
     refine cw c1 ?_
     try simp (maxSteps:=9^9) only[go_sem]
     repeat refine AI ?_
     refine LoopK.mk (i+1) ?_ (fun j h1 h2=>?_) (by omega)
     ·exact WK
     ·by_cases h3:j < i
      ·exact hi j h3 h2
      ·rw [show j=i by omega]; exact e
    ·rw [eqb_false e] at c1
     rw [eqb_false (fun h=>e (by rw [h]))]
     try simp (maxSteps:=9^9) only[go_sem]
     repeat refine AI ?_
     repeat refine AI ?_
     refine cw c1 ?_
     try simp (maxSteps:=9^9) only[go_sem]
     all_goals repeat refine AI ?_
     all_goals first|kernel_rfl|omega|rfl
   ·have:a=b:=by
     refine List.ext_getElem (by omega) fun j h1 h2=>?_
     have:=hi j (by omega) h1
     rwa [nth_lt h1,nth_lt h2] at this
    rw [eqb_true this]
    try simp (maxSteps:=9^9) only[go_sem]
    all_goals repeat refine AI ?_
    all_goals first|kernel_rfl|omega|rfl
 ·have d0:=decide_eq_false h0
  rw [eqb_false (fun h=>h0 (by rw [h]))]
  refine fe Tryz.func72 Tryz.ntmps72 Tryz.results72 fun hwf=>?_
  try simp (maxSteps:=9^9) only[go_sem,d0]
  all_goals repeat refine AI ?_
  all_goals first|kernel_rfl|omega|rfl
set_option maxHeartbeats 1000000 in
theorem SameStepsI_fn (a b:List DS):Fn Tryz.prog 37 [⟨.slice tStep,a⟩,⟨.slice tStep,b⟩] false [⟨.bool,eqb a b⟩]:=by
 have c1:=eqFunc_step_fn 73 sameStepsC_fn a b
 refine fe Tryz.func37 Tryz.ntmps37 Tryz.results37 fun hwf=>?_
 try simp (maxSteps:=9^9) only[go_sem]
 repeat refine AI ?_
 repeat refine AI ?_
 refine cw c1 ?_
 try simp (maxSteps:=9^9) only[go_sem]
 all_goals repeat refine AI ?_
 all_goals first|kernel_rfl|omega|rfl
theorem checkText_fn:Fn Tryz.prog 38 [⟨.int,(6:Int)⟩] false [⟨.str,bs [103,111,97,108]⟩]:=by
 refine fe Tryz.func38 Tryz.ntmps38 Tryz.results38 fun hwf=>?_
 try simp (maxSteps:=9^9) only[go_sem]
 repeat refine AI ?_
 refine cw (within_fn 6 0 6) ?_
 try simp (maxSteps:=9^9) only[go_sem]
 exact ⟨by decide,by decide,rfl⟩
variable {code:List Int}
theorem l01Pick_fn (hc:code.length<=1048576) (c:Cu code) (l:List Int) (h:1<=l.length/\l.length<=256):Dr 129 c c.next [⟨tInts,l⟩] false ⟨.int,ni l (c.below l.length).toNat⟩:=by
 have hb:=c.below_rng (n:=(l.length:Int)) (by omega)
 refine fnC_enter tabOK mixes Tryz.func129 rfl rfl _ Tryz.ntmps129 _ Tryz.results129 (by simp) (cz_ok hc _) (cz_one _) fun b u0 hwl hzs hwf=>?_
 try simp (maxSteps:=9^9) only[go_sem]
 repeat refine AI ?_
 refine CallW.c false (l01Below_fn hc c l.length (by omega)) ?_
 try simp (maxSteps:=9^9) only[go_sem]
 all_goals repeat refine AI ?_
 all_goals first|kernel_rfl|omega|rfl
noncomputable def drX (c:Cu code):DS:=(ni [0,0,1,-1] (c.below 4).toNat,hp (atK c.next))
def drC (c:Cu code):Nat->Cu code
 | 0=>c
 | k+1=>(drC c k).next.next.next.next
noncomputable def drL (c:Cu code):Nat->List DS
 | 0=>[]
 | k+1=>drL c k++[drX (drC c k)]
theorem drL_len (c:Cu code):∀ k,(drL c k).length=k
 | 0=>rfl
 | k+1=>by rw [drL,List.length_append,drL_len c k]; rfl
theorem l29Step_fn (hc:code.length<=1048576) (c:Cu code):Dr 96 c c.next.next.next.next [] true ⟨tStep,drX c⟩:=by
 have c1:=l01Pick_fn hc c [0,0,1,-1] (by decide)
 have c2:=l11At_fn hc c.next
 rw [show (([0,0,1,-1]:List Int).length:Int)=4 from rfl] at c1
 unfold drX
 generalize hp (atK c.next)=P at *
 generalize ni [0,0,1,-1] (c.below 4).toNat=r at *
 refine fnC_enter tabOK mixes Tryz.func96 rfl rfl _ Tryz.ntmps96 _ Tryz.results96 (by simp) (cz_ok hc _) (cz_one _) fun b u0 hwl hzs hwf=>?_
 try simp (maxSteps:=9^9) only[go_sem]
 repeat refine AI ?_
 refine CallW.c false (c1) ?_
 try simp (maxSteps:=9^9) only[go_sem]
 repeat refine AI ?_
 refine CallW.c false (c2) ?_
 try simp (maxSteps:=9^9) only[go_sem]
 all_goals repeat refine AI ?_
 all_goals first|kernel_rfl|omega|rfl
theorem l19Place_fn (hc:code.length<=1048576) (c:Cu code):Dr 65 c c.next.next.next.next [] true ⟨tStep,(c.below 4,hp (atK c.next))⟩:=by
 have c1:=l01Below_fn hc c 4 (by decide)
 have c2:=l11At_fn hc c.next
 generalize hp (atK c.next)=P at *
 generalize c.below 4=r at *
 refine fnC_enter tabOK mixes Tryz.func65 rfl rfl _ Tryz.ntmps65 _ Tryz.results65 (by simp) (cz_ok hc _) (cz_one _) fun b u0 hwl hzs hwf=>?_
 try simp (maxSteps:=9^9) only[go_sem]
 repeat refine AI ?_
 refine CallW.c false (c1) ?_
 try simp (maxSteps:=9^9) only[go_sem]
 repeat refine AI ?_
 refine CallW.c false (c2) ?_
 try simp (maxSteps:=9^9) only[go_sem]
 all_goals repeat refine AI ?_
 all_goals first|kernel_rfl|omega|rfl
theorem l29Steps_fn (hc:code.length<=1048576) (c:Cu code):Dr 67 c (drC c.next (c.below 4).toNat) [] true ⟨.slice tStep,drL c.next (c.below 4).toNat⟩:=by
 have c1:=l01Below_fn hc c 4 (by decide)
 have hr:=c.below_rng (n:=4) (by decide)
 obtain ⟨N,hN⟩:∃ N:Nat,c.below 4=(N:Int):=⟨(c.below 4).toNat,by omega⟩
 rw [hN] at c1 hr
 rw [hN,Int.toNat_natCast]
 generalize c.next=C at *
 refine fnC_enter tabOK mixes Tryz.func67 rfl rfl _ Tryz.ntmps67 _ Tryz.results67 (by simp) (cz_ok hc _) (cz_one _) fun b u0 hwl hzs hwf=>?_
 try simp (maxSteps:=9^9) only[go_sem]
 repeat refine AI ?_
 refine CallW.c false (c1) ?_
 try simp (maxSteps:=9^9) only[go_sem]
 refine LoopG.intro _ _ _ (fun k:Nat=>⟨[(0,.ptr 0 0),(3,.row 3 0),(4,.sc (.int .i64 ((N:Int) - k)))],[(0,.bx (some b) (.fx u0 .u8 code :: (cz (drC C k)).map fun z=>.sc z)),(3,.row 48 tStep 0 true (drL C k))]⟩) (fun k=>k<=N) (fun k=>N - k) 0 ?_ (Nat.zero_le _) ?_
 ·refine Wk.mk [(3,1)] ?_
  try simp (maxSteps:=9^9) only[go_sem]
  try (and_intros<;>first|rfl|omega|exact ⟨_,rfl⟩)
 ·rintro k hk
  have hl1:=drL_len C k
  have c2:=l29Step_fn hc (drC C k)
  try simp (maxSteps:=9^9) only[go_sem]
  refine CondW_dec (fun hA=>?_) (fun hA=>?_)
  ·try simp (maxSteps:=9^9) only[go_sem]
   repeat refine AI ?_
   refine CallW.c false (c2) ?_
   try simp (maxSteps:=9^9) only[go_sem]
   try simp (maxSteps:=9^9) only[go_sem,hl1]
   repeat refine AI ?_
   refine LoopK.mk (k+1) ?_ (by omega) (by omega)
   rw [show drL C (k+1)=drL C k++[drX (drC C k)] from rfl,show drC C (k+1)=(drC C k).next.next.next.next from rfl]
   exact WK
  ·have e:N=k:=by omega
   rw [e]
   try simp (maxSteps:=9^9) only[go_sem]
noncomputable def mkSt (code:List Int) (hc:code.length<=1048576):List DS:=drL (Cu.new code hc).next ((Cu.new code hc).below 4).toNat
noncomputable def mkPl (code:List Int) (hc:code.length<=1048576):DS:=((Cu.at code hc 7).below 4,hp (atK (Cu.at code hc 7).next))
theorem MakeSteps_fn (hc:code.length<=1048576):Fn Tryz.prog 34 [⟨.slice .u8,code⟩] false [⟨.slice tStep,mkSt code hc⟩]:=by
 refine fe Tryz.func34 Tryz.ntmps34 Tryz.results34 fun hwf=>?_
 try simp (maxSteps:=9^9) only[go_sem]
 repeat refine AI ?_
 refine CallW.nb (l01New_fn hc) ?_
 try simp (maxSteps:=9^9) only[go_sem]
 repeat refine AI ?_
 refine CallW.c false (l29Steps_fn hc (Cu.new code hc)) ?_
 try simp (maxSteps:=9^9) only[go_sem]
 all_goals repeat refine AI ?_
 all_goals first|kernel_rfl|omega|rfl
theorem MakePlacement_fn (hc:code.length<=1048576):Fn Tryz.prog 33 [⟨.slice .u8,code⟩,⟨.int,(1:Int)⟩] false [⟨tStep,mkPl code hc⟩]:=by
 rw [mkPl]
 refine fe Tryz.func33 Tryz.ntmps33 Tryz.results33 fun hwf=>?_
 try simp (maxSteps:=9^9) only[go_sem]
 repeat refine AI ?_
 refine CallW.nb (l31New_fn hc 7 (by decide)) ?_
 try simp (maxSteps:=9^9) only[go_sem]
 repeat refine AI ?_
 refine CallW.c false (l19Place_fn hc (Cu.at code hc 7)) ?_
 try simp (maxSteps:=9^9) only[go_sem]
 all_goals repeat refine AI ?_
 all_goals first|kernel_rfl|omega|rfl
theorem pL_fmt {p:Int × DP} (h:okL p):pL (fmtL p)=some p:=unF_some (fun _ _=>fmtL_inj) h rfl
theorem pM_fmt {l:List (Int × DP)} (h:okM l):pM (fmtM l)=some l:=unF_some (fun _ _=>fmtM_inj) h rfl
theorem fmtS_len' {p:Int × DP} (h:okS p):(fmtS p).length<=2200:=by
 have:=fmtP_len h.2
 rw [fmtS_ok h,List.length_append,List.length_cons]
 rcases wrd_cases h.1 with e|e|e<;>rw [e]<;>simp [wrd]<;>omega
theorem fmtL_len {p:Int × DP} (h:okL p):(fmtL p).length<=1048576:=by
 have:=fmtP_len h.2
 rw [fmtL_ok h,List.length_cons,List.length_cons]; omega
theorem fmtM_len {l:List (Int × DP)} (h:okM l):(fmtM l).length<=1048576:=by
 have h1:¬ 60 < l.length:=Nat.not_lt.2 h.1
 have:=linesM_len l l.length
 have h2:=h.1
 rw [fmtM,if_neg h1]
 split
 ·exact Nat.zero_le _
 ·omega
theorem parseL_fmt {p:Int × DP} (h:okL p):FnT Tryz.prog 26 [⟨.str,bs (fmtL p)⟩] [⟨tStep,p⟩,⟨.bool,true⟩]:=by
 have:=parsePlacement_fn (fmtL p) (fmtL_len h)
 rw [pL_fmt h] at this
 exact this
theorem parseM_fmt {l:List (Int × DP)} (h:okM l):FnT Tryz.prog 35 [⟨.str,bs (fmtM l)⟩] [⟨.slice tStep,l⟩,⟨.bool,true⟩]:=by
 have:=parseMotion_fn (fmtM l) (fmtM_len h)
 rw [pM_fmt h] at this
 exact this
theorem parseS_fmt {p:Int × DP} (h:okS p):FnT Tryz.prog 30 [⟨.str,bs (fmtS p)⟩] [⟨tStep,p⟩,⟨.bool,true⟩]:=by
 have:=parseStep_fn (fmtS p) (Nat.le_trans (fmtS_len' h) (by decide))
 rw [pS_fmt h] at this
 exact this
variable {code:List Int}
theorem okPt_hp {v:Int × Int} (h:hpOk v):okPt (hp v)=true:=by
 obtain ⟨_,_,_,_⟩:=h
 show (okR (ratD _) && okR (ratD _))=true
 rw [okR_fit (half_fit (by omega)),okR_fit (half_fit (by omega))]; rfl
theorem mkPl_ok (hc:code.length<=1048576):okL (mkPl code hc):=by
 have h1:=(Cu.at code hc 7).below_rng (n:=4) (by decide)
 exact ⟨⟨h1.1,Int.le_of_lt_add_one h1.2⟩,okPt_hp (atK_ok _)⟩
theorem drX_ok (c:Cu code):okS (drX c):=by
 have h1:=c.below_rng (n:=4) (by decide)
 refine ⟨?_,okPt_hp (atK_ok _)⟩
 have h2:(c.below 4).toNat=0\/(c.below 4).toNat=1\/(c.below 4).toNat=2\/(c.below 4).toNat=3:=by omega
 show -1<=ni [0,0,1,-1] (c.below 4).toNat/\ni [0,0,1,-1] (c.below 4).toNat<=1
 rcases h2 with e|e|e|e<;>rw [e]<;>decide
theorem drL_ok (c:Cu code):∀ k,∀ x ∈ drL c k,okS x
 | 0=>fun x hx=>by cases hx
 | k+1=>fun x hx=>by
  rw [drL,List.mem_append,List.mem_singleton] at hx
  rcases hx with hx|rfl
  ·exact drL_ok c k x hx
  ·exact drX_ok _
theorem mkSt_ok (hc:code.length<=1048576):okM (mkSt code hc):=by
 have h1:=(Cu.new code hc).below_rng (n:=4) (by decide)
 refine ⟨?_,drL_ok _ _⟩
 rw [mkSt,drL_len]; omega
set_option maxHeartbeats 4000000 in
theorem lawFormats_fn (code:List Int):Fn Tryz.prog 8 [⟨.slice .u8,code⟩] false [⟨.bool,true⟩]:=by
 by_cases hc:code.length<=1048576
 rotate_left
 ·have d0:decide (((1048576:Int)) < (code.length:Int))=true:=decide_eq_true (by omega)
  refine fe Tryz.func8 Tryz.ntmps8 Tryz.results8 fun hwf=>?_
  try simp (maxSteps:=9^9) only[go_sem,d0]
  all_goals repeat refine AI ?_
  all_goals first|kernel_rfl|omega|rfl
 have d0:decide (((1048576:Int)) < (code.length:Int))=false:=decide_eq_false (by omega)
 have cP:=MakePlacement_fn hc
 have cM:=MakeSteps_fn hc
 have okP:=mkPl_ok hc
 have okS:=mkSt_ok hc
 generalize mkPl code hc=p at *
 generalize mkSt code hc=L at *
 have c1:=formatPlacement_fn p.1 p.2
 have c2:=parseL_fmt okP
 have c3:=formatMotion_fn L
 have c4:=parseM_fmt okS
 refine fe Tryz.func8 Tryz.ntmps8 Tryz.results8 fun hwf=>?_
 try simp (maxSteps:=9^9) only[go_sem,d0]
 repeat refine AI ?_
 refine cw cP ?_
 try simp (maxSteps:=9^9) only[go_sem]
 repeat refine AI ?_
 refine cw cM ?_
 try simp (maxSteps:=9^9) only[go_sem]
 repeat refine AI ?_
 refine cw c1 ?_
 try simp (maxSteps:=9^9) only[go_sem]
 repeat refine AI ?_
 refine CallW.t (c2) ?_
 try simp (maxSteps:=9^9) only[go_sem]
 repeat refine AI ?_
 refine cw c3 ?_
 try simp (maxSteps:=9^9) only[go_sem]
 repeat refine AI ?_
 refine CallW.t (c4) ?_
 try simp (maxSteps:=9^9) only[go_sem]
 refine LoopG.intro _ _ _ (fun i:Nat=>⟨[(2,.sc (.bool false)),(3,.ptr 0 0),(4,.sl tStep L),(5,.ptr 5 0),(6,.sc (.bool true)),(7,.row 6 0),(8,.sc (.bool true)),(32,.sl tStep L),(33,.sc (.int .i64 L.length)),(34,.sc (.int .i64 i))],[(6,.mine tStep L),(5,.bx none [.sc (.int .i64 p.1),.sc (.bool p.2.1.1.1),.row 1 0,.row 2 0,.sc (.bool p.2.2.1.1),.row 3 0,.row 4 0]),(4,.mine .int p.2.2.2),(3,.mine .int p.2.2.1.2),(2,.mine .int p.2.1.2),(1,.mine .int p.2.1.1.2),(0,.bx none [.sc (.int .i64 p.1),.sc (.bool p.2.1.1.1),.sl .int p.2.1.1.2,.sl .int p.2.1.2,.sc (.bool p.2.2.1.1),.sl .int p.2.2.1.2,.sl .int p.2.2.2])]⟩) (fun i=>i<=L.length) (fun i=>L.length - i) 0 ?_ (Nat.zero_le _) ?_
 ·exact WK
 ·rintro i hi
  try simp (maxSteps:=9^9) only[go_sem]
  refine CondW_dec (fun hA=>?_) (fun hA=>?_)
  ·have hia:i < L.length:=by omega
   have h60:L.length<=60:=okS.1
   have okx:=okS.2 (nth (t:=tStep) L i) (by rw [nth_lt hia]; exact List.getElem_mem _)
   have c5:=formatStep_fn (nth (t:=tStep) L i).1 (nth (t:=tStep) L i).2
   have c6:=parseS_fmt okx
   have c7:=implSame_fn (nth (t:=tStep) L i).2 (nth (t:=tStep) L i).2
   rw [eqb_true rfl] at c7
   try simp (maxSteps:=9^9) only[go_sem]
   repeat refine AI ?_
   refine cw c5 ?_
   try simp (maxSteps:=9^9) only[go_sem]
   repeat refine AI ?_
   refine CallW.t (c6) ?_
   try simp (maxSteps:=9^9) only[go_sem]
   repeat refine AI ?_
   refine CallW.mx (c7) ?_
   try simp (maxSteps:=9^9) only[go_sem]
   refine ⟨i64_nat (by omega) (by omega),LoopK.mk (i+1) ?_ (by omega) (by omega)⟩
   exact WK
  ·have c7:=implSame_fn p.2 p.2
   have c8:=SameStepsI_fn L L
   rw [eqb_true rfl] at c7 c8
   try simp (maxSteps:=9^9) only[go_sem]
   repeat refine AI ?_
   refine CallW.mx (c7) ?_
   try simp (maxSteps:=9^9) only[go_sem]
   repeat refine AI ?_
   refine CallW.mx (c8) ?_
   try simp (maxSteps:=9^9) only[go_sem]
   repeat refine AI ?_
   refine cw checkText_fn ?_
   try simp (maxSteps:=9^9) only[go_sem]
theorem gw_of_laid {W:World} {a b:String × DataW Unit} {rest:List (String × DataW Unit)} (h:laidMet Tryz.prog (a :: b :: ("internal/strconv.uint64pow10",Rows.laid_internal_strconv_uint64pow10) :: rest) W):Gw Tryz.prog W:=by
 obtain ⟨ps,⟨g0,t0,cs0,f0,p0,q0,hg0,ht0,hv0,hd0,⟨g1,t1,cs1,f1,p1,q1,hg1,ht1,hv1,hd1,⟨g2,t2,cs2,f2,p2,q2,hg2,ht2,hv2,hd2,_,_⟩,_⟩,_⟩,_⟩:=h
 have hgn:Tryz.prog.globalNamed tabName=some 3:=by kernel_rfl
 have hty:(Tryz.prog.globals[3]?).map (·.type)=some 205:=by kernel_rfl
 obtain rfl:=Option.some.inj (hgn.symm.trans hg2)
 obtain rfl:=Option.some.inj (hty.symm.trans ht2)
 have hd3:DataW.trod _ Tryz.prog W _ _ _ f2 205 cs2.toList=some (Lib.tabData .u64 Lib.pow10Tab,p2):=hd2
 have hcs:=Lib.cells_of_tab Tryz.underlying205 Tryz.underlying191 (by kernel_rfl) (by kernel_rfl) hd3
 intro g hg
 obtain rfl:=Option.some.inj (hgn.symm.trans hg)
 refine ⟨?_,?_⟩
 ·unfold World.var? at hv2
  rw [hgn] at hv2
  simp only [Option.bind_some] at hv2
  by_cases hlt:3 < W.heap.size
  ·exact hlt
  ·rw [Array.getElem?_eq_none (by omega)] at hv2; cases hv2
 ·unfold Lib.TabIs
  rw [hv2,<-hcs]
end Go.Proofs.YtaeckjmkjhffnaaGreatDoor.DW
