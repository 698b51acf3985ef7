/-
  Texts of a proof, one behind another: Dw83, Sp1, Sp2, Dw23, Dw24, Hl1, Dw40, LwA, Ints, Own, Copy, PtOr, Dw19, Dw41, Dw82, Dw81, Sp3, LawSpeed, LawFastest.
-/
import Derived.Deep.AppendLies
import Derived.Test.YtaflkgjckmfkoaaGreatProg
import Derived.Deep.RegionHeld3
import Derived.Deep.RegionLaw
import Derived.Test.YtaflkgjckmfkoaaGreatKA3
set_option linter.all false
namespace Go.Proofs.YtaflkgjckmfkoaaGreat.DW
open Go.RowKit
theorem areBig_fn (x y:DB):Fn Tryz.prog 68 [⟨tBig,x⟩,⟨tBig,y⟩] false [⟨.bool,okB x && okB y⟩]:=by
 cases hx:okB x
 ·refine fn_enter tabOK mixes Tryz.func68 rfl rfl _ Tryz.ntmps68 _ Tryz.results68 (by simp) fun hwf=>?_
  try simp (maxSteps:=9^9) only[go_sem]
  repeat refine And.intro (by first|omega|(constructor<;>omega)|kernel_rfl) ?_
  refine CallW.mk (implBigIntOk_fn x) ?_
  try simp (maxSteps:=9^9) only[go_sem]
  try simp (maxSteps:=9^9) only[go_sem,hx]
 ·refine fn_enter tabOK mixes Tryz.func68 rfl rfl _ Tryz.ntmps68 _ Tryz.results68 (by simp) fun hwf=>?_
  try simp (maxSteps:=9^9) only[go_sem]
  repeat refine And.intro (by first|omega|(constructor<;>omega)|kernel_rfl) ?_
  refine CallW.mk (implBigIntOk_fn x) ?_
  try simp (maxSteps:=9^9) only[go_sem]
  try simp (maxSteps:=9^9) only[go_sem,hx]
  repeat refine And.intro (by first|omega|(constructor<;>omega)|kernel_rfl) ?_
  refine CallW.mk (implBigIntOk_fn y) ?_
  try simp (maxSteps:=9^9) only[go_sem]
theorem nl_1 {n:Nat} (h:n < 1000000000):nl n<=1:=by
 have:=nl_small (n:=n) h
 exact this
theorem bigD_pos {d:Int} (hd:0<=d):bigD d=(false,natL d.toNat):=by
 show (decide (d < 0),natL d.natAbs)=_
 rw [decide_eq_false (by omega),show d.natAbs=d.toNat by omega]
theorem mk_div {n d:Int} (hd:1<=d):_root_.mkRat n d.toNat=(n:Rat) / (d:Rat):=by
 rw [Rat.mkRat_eq_div]
 have:((d.toNat:Nat):Rat)=((d:Int):Rat):=by
  have h:((d.toNat:Nat):Int)=d:=by omega
  rw [<-h]; rfl
 rw [this]
theorem neq_f (b:Bool):(!(b == false))=b:=by cases b<;>rfl
theorem RatOfI_fn (n d:Int) (hn:n.natAbs < 1000000000) (hd:1<=d/\d < 1000000000):Fn Tryz.prog 10 [⟨.int,n⟩,⟨.int,d⟩] true [⟨tRat,oD (capR ((n:Rat) / (d:Rat)))⟩]:=by
 have h1:=nl_1 hn
 have h2:=nl_1 (show d.toNat < 1000000000 by omega)
 have hm:=ratMake_end n d.toNat (by omega) (by omega) (by omega)
 rw [mk_div hd.1] at hm
 have c1:=bigOf_fn d
 rw [bigD_pos (by omega)] at c1
 have ok1:okB (bigD n)=true:=okB_bigD (by omega)
 have ok2:okB (false,natL d.toNat)=true:=by rw [<-bigD_pos (by omega)]; exact okB_bigD (by rw [show d.natAbs=d.toNat by omega]; omega)
 have ca:=areBig_fn (bigD n) (false,natL d.toNat)
 rw [ok1,ok2] at ca
 have hl:¬ ((nl d.toNat:Int)=0):=fun h=>by have:=nl_eq_zero.1 (show nl d.toNat=0 by omega); omega
 have hM:Fn Tryz.prog 30 [⟨tBig,bigD n⟩,⟨tBig,(false,natL d.toNat)⟩] true [⟨tRat,oD (capR ((n:Rat) / (d:Rat)))⟩]:=by
  have cb:=bigMake_to (s:=!(decide (n < 0) == false)) (n:=n.natAbs) (z:=n) (by rw [neq_f]; exact sgn_bigD n)
  refine fn_enter tabOK mixes Tryz.func30 rfl rfl _ Tryz.ntmps30 _ Tryz.results30 (by simp) fun hwf=>?_
  try simp (maxSteps:=9^9) only[go_sem]
  repeat refine And.intro (by first|omega|(constructor<;>omega)|kernel_rfl) ?_
  refine CallW.mk (ca) ?_
  try simp (maxSteps:=9^9) only[go_sem]
  try simp (maxSteps:=9^9) only[go_sem,hl]
  repeat refine And.intro (by first|omega|(constructor<;>omega)|kernel_rfl) ?_
  refine CallW.mk (cb) ?_
  try simp (maxSteps:=9^9) only[go_sem]
  repeat refine And.intro (by first|omega|(constructor<;>omega)|kernel_rfl) ?_
  refine CallW.mk (hm) ?_
  try simp (maxSteps:=9^9) only[go_sem]
  all_goals repeat refine And.intro (by first|omega|(constructor<;>omega)|kernel_rfl) ?_
  all_goals first|kernel_rfl|omega|rfl
 refine fn_enter tabOK mixes Tryz.func10 rfl rfl _ Tryz.ntmps10 _ Tryz.results10 (by simp) fun hwf=>?_
 try simp (maxSteps:=9^9) only[go_sem]
 repeat refine And.intro (by first|omega|(constructor<;>omega)|kernel_rfl) ?_
 refine CallW.mk (bigOf_fn n) ?_
 try simp (maxSteps:=9^9) only[go_sem]
 repeat refine And.intro (by first|omega|(constructor<;>omega)|kernel_rfl) ?_
 refine CallW.mk (c1) ?_
 try simp (maxSteps:=9^9) only[go_sem]
 repeat refine And.intro (by first|omega|(constructor<;>omega)|kernel_rfl) ?_
 refine CallW.mk (hM) ?_
 try simp (maxSteps:=9^9) only[go_sem]
theorem RatOfS_fn (n d:Int) (hn:n.natAbs < 1000000000) (hd:1<=d/\d < 1000000000):Fn Tryz.prog 57 [⟨.int,n⟩,⟨.int,d⟩] true [⟨tRat,oD (capR ((n:Rat) / (d:Rat)))⟩]:=by
 have h1:=nl_1 hn
 have h2:=nl_1 (show d.toNat < 1000000000 by omega)
 have c1:=BigIntOf_fn d
 rw [bigD_pos (by omega)] at c1
 have ok1:okB (bigD n)=true:=okB_bigD (by omega)
 have ok2:okB (false,natL d.toNat)=true:=by rw [<-bigD_pos (by omega)]; exact okB_bigD (by rw [show d.natAbs=d.toNat by omega]; omega)
 have o1:=specBigIntOk_fn (bigD n)
 have o2:=specBigIntOk_fn (false,natL d.toNat)
 rw [ok1] at o1
 rw [ok2] at o2
 have hM:Fn Tryz.prog 104 [⟨tBig,bigD n⟩,⟨tBig,(false,natL d.toNat)⟩] true [⟨tRat,oD (capR ((n:Rat) / (d:Rat)))⟩]:=by
  have cl:=l04Low_fn (!(decide (n < 0) == false)) n.natAbs d.toNat (by omega) (by omega) (by omega)
  rw [neq_f,sgn_bigD,mk_div hd.1,<-neq_f (decide (n < 0))] at cl
  refine fn_enter tabOK mixes Tryz.func104 rfl rfl _ Tryz.ntmps104 _ Tryz.results104 (by simp) fun hwf=>?_
  try simp (maxSteps:=9^9) only[go_sem]
  repeat refine And.intro (by first|omega|(constructor<;>omega)|kernel_rfl) ?_
  refine CallW.mk (o1) ?_
  try simp (maxSteps:=9^9) only[go_sem]
  repeat refine And.intro (by first|omega|(constructor<;>omega)|kernel_rfl) ?_
  refine CallW.mk (o2) ?_
  try simp (maxSteps:=9^9) only[go_sem]
  repeat refine And.intro (by first|omega|(constructor<;>omega)|kernel_rfl) ?_
  refine CallW.mk (cl) ?_
  try simp (maxSteps:=9^9) only[go_sem]
 refine fn_enter tabOK mixes Tryz.func57 rfl rfl _ Tryz.ntmps57 _ Tryz.results57 (by simp) fun hwf=>?_
 try simp (maxSteps:=9^9) only[go_sem]
 repeat refine And.intro (by first|omega|(constructor<;>omega)|kernel_rfl) ?_
 refine CallW.mk (BigIntOf_fn n) ?_
 try simp (maxSteps:=9^9) only[go_sem]
 repeat refine And.intro (by first|omega|(constructor<;>omega)|kernel_rfl) ?_
 refine CallW.mk (c1) ?_
 try simp (maxSteps:=9^9) only[go_sem]
 repeat refine And.intro (by first|omega|(constructor<;>omega)|kernel_rfl) ?_
 refine CallW.mk (hM) ?_
 try simp (maxSteps:=9^9) only[go_sem]
theorem areRats_fn (r s:DR):Fn Tryz.prog 28 [⟨tRat,r⟩,⟨tRat,s⟩] false [⟨.bool,okR r && okR s⟩]:=by
 cases hr:okR r
 ·refine fn_enter tabOK mixes Tryz.func28 rfl rfl _ Tryz.ntmps28 _ Tryz.results28 (by simp) fun hwf=>?_
  try simp (maxSteps:=9^9) only[go_sem]
  repeat refine And.intro (by first|omega|(constructor<;>omega)|kernel_rfl) ?_
  refine CallW.mk (implRatOk_fn r) ?_
  try simp (maxSteps:=9^9) only[go_sem]
  try simp (maxSteps:=9^9) only[go_sem,hr]
 ·refine fn_enter tabOK mixes Tryz.func28 rfl rfl _ Tryz.ntmps28 _ Tryz.results28 (by simp) fun hwf=>?_
  try simp (maxSteps:=9^9) only[go_sem]
  repeat refine And.intro (by first|omega|(constructor<;>omega)|kernel_rfl) ?_
  refine CallW.mk (implRatOk_fn r) ?_
  try simp (maxSteps:=9^9) only[go_sem]
  try simp (maxSteps:=9^9) only[go_sem,hr]
  repeat refine And.intro (by first|omega|(constructor<;>omega)|kernel_rfl) ?_
  refine CallW.mk (implRatOk_fn s) ?_
  try simp (maxSteps:=9^9) only[go_sem]
theorem RatMulI_fn (x y:Option Rat) (hx:okO x) (hy:okO y):Fn Tryz.prog 9 [⟨tRat,oD x⟩,⟨tRat,oD y⟩] true [⟨tRat,oD (mulO x y)⟩]:=by
 have ca:=areRats_fn (oD x) (oD y)
 have e1:okR (oD x)=x.isSome:=by unfold okR; rw [rdO_oD hx]
 have e2:okR (oD y)=y.isSome:=by unfold okR; rw [rdO_oD hy]
 rw [e1,e2] at ca
 have cm:=ratMul_fn x y hx hy
 by_cases h:(x.isSome && y.isSome)=true
 ·rw [h] at ca
  refine fn_enter tabOK mixes Tryz.func9 rfl rfl _ Tryz.ntmps9 _ Tryz.results9 (by simp) fun hwf=>?_
  try simp (maxSteps:=9^9) only[go_sem]
  repeat refine And.intro (by first|omega|(constructor<;>omega)|kernel_rfl) ?_
  refine CallW.mk (ca) ?_
  try simp (maxSteps:=9^9) only[go_sem]
  repeat refine And.intro (by first|omega|(constructor<;>omega)|kernel_rfl) ?_
  refine CallW.mk (cm) ?_
  try simp (maxSteps:=9^9) only[go_sem]
  all_goals repeat refine And.intro (by first|omega|(constructor<;>omega)|kernel_rfl) ?_
  all_goals first|kernel_rfl|omega|rfl
 ·have h':(x.isSome && y.isSome)=false:=by simpa using h
  rw [h'] at ca
  have e:mulO x y=none:=by
   cases x with
   | none=>rfl
   | some p=>cases y with
    | none=>rfl
    | some q=>cases h'
  rw [e]
  refine fn_enter tabOK mixes Tryz.func9 rfl rfl _ Tryz.ntmps9 _ Tryz.results9 (by simp) fun hwf=>?_
  try simp (maxSteps:=9^9) only[go_sem]
  repeat refine And.intro (by first|omega|(constructor<;>omega)|kernel_rfl) ?_
  refine CallW.mk (ca) ?_
  try simp (maxSteps:=9^9) only[go_sem]
  all_goals repeat refine And.intro (by first|omega|(constructor<;>omega)|kernel_rfl) ?_
  all_goals first|kernel_rfl|omega|rfl
theorem RatAddI_fn (x y:Option Rat) (hx:okO x) (hy:okO y):Fn Tryz.prog 13 [⟨tRat,oD x⟩,⟨tRat,oD y⟩] true [⟨tRat,oD (addO x y)⟩]:=by
 have ca:=areRats_fn (oD x) (oD y)
 have e1:okR (oD x)=x.isSome:=by unfold okR; rw [rdO_oD hx]
 have e2:okR (oD y)=y.isSome:=by unfold okR; rw [rdO_oD hy]
 rw [e1,e2] at ca
 have cm:=ratAdd_fn x y hx hy
 by_cases h:(x.isSome && y.isSome)=true
 ·rw [h] at ca
  refine fn_enter tabOK mixes Tryz.func13 rfl rfl _ Tryz.ntmps13 _ Tryz.results13 (by simp) fun hwf=>?_
  try simp (maxSteps:=9^9) only[go_sem]
  repeat refine And.intro (by first|omega|(constructor<;>omega)|kernel_rfl) ?_
  refine CallW.mk (ca) ?_
  try simp (maxSteps:=9^9) only[go_sem]
  repeat refine And.intro (by first|omega|(constructor<;>omega)|kernel_rfl) ?_
  refine CallW.mk (cm) ?_
  try simp (maxSteps:=9^9) only[go_sem]
  all_goals repeat refine And.intro (by first|omega|(constructor<;>omega)|kernel_rfl) ?_
  all_goals first|kernel_rfl|omega|rfl
 ·have h':(x.isSome && y.isSome)=false:=by simpa using h
  rw [h'] at ca
  have e:addO x y=none:=by
   cases x with
   | none=>rfl
   | some p=>cases y with
    | none=>rfl
    | some q=>cases h'
  rw [e]
  refine fn_enter tabOK mixes Tryz.func13 rfl rfl _ Tryz.ntmps13 _ Tryz.results13 (by simp) fun hwf=>?_
  try simp (maxSteps:=9^9) only[go_sem]
  repeat refine And.intro (by first|omega|(constructor<;>omega)|kernel_rfl) ?_
  refine CallW.mk (ca) ?_
  try simp (maxSteps:=9^9) only[go_sem]
  all_goals repeat refine And.intro (by first|omega|(constructor<;>omega)|kernel_rfl) ?_
  all_goals first|kernel_rfl|omega|rfl
theorem RatSignI_fn (x:Option Rat) (hx:okO x):Fn Tryz.prog 14 [⟨tRat,oD x⟩] false [⟨.int,sgnO x⟩]:=by
 have ca:=implRatOk_fn (oD x)
 have e1:okR (oD x)=x.isSome:=by unfold okR; rw [rdO_oD hx]
 rw [e1] at ca
 cases x with
 | none =>
  refine fn_enter tabOK mixes Tryz.func14 rfl rfl _ Tryz.ntmps14 _ Tryz.results14 (by simp) fun hwf=>?_
  try simp (maxSteps:=9^9) only[go_sem]
  repeat refine And.intro (by first|omega|(constructor<;>omega)|kernel_rfl) ?_
  refine CallW.mk (ca) ?_
  try simp (maxSteps:=9^9) only[go_sem]
  all_goals repeat refine And.intro (by first|omega|(constructor<;>omega)|kernel_rfl) ?_
  all_goals first|kernel_rfl|omega|rfl
 | some p =>
  have cm:=ratSign_fn (some p)
  refine fn_enter tabOK mixes Tryz.func14 rfl rfl _ Tryz.ntmps14 _ Tryz.results14 (by simp) fun hwf=>?_
  try simp (maxSteps:=9^9) only[go_sem]
  repeat refine And.intro (by first|omega|(constructor<;>omega)|kernel_rfl) ?_
  refine CallW.mk (ca) ?_
  try simp (maxSteps:=9^9) only[go_sem]
  repeat refine And.intro (by first|omega|(constructor<;>omega)|kernel_rfl) ?_
  refine CallW.mk (cm) ?_
  try simp (maxSteps:=9^9) only[go_sem]
  all_goals repeat refine And.intro (by first|omega|(constructor<;>omega)|kernel_rfl) ?_
  all_goals first|kernel_rfl|omega|rfl
end Go.Proofs.YtaflkgjckmfkoaaGreat.DW

namespace Go.Proofs.YtaflkgjckmfkoaaGreat.DW
open Go.RowKit
def fit (q:Rat):Prop:=q.num.natAbs < 1000000000/\q.den < 1000000000
theorem fit_small {q:Rat} (h:fit q):small q:=by
 have h1:=nl_small h.1
 have h2:=nl_small h.2
 exact ⟨by omega,by omega⟩
theorem cap_fit {q:Rat} (h:fit q):capR q=some q:=capR_s (fit_small h)
theorem fit_int {z:Int} (h:z.natAbs < 1000000000):fit (z:Rat):=⟨h,(by decide:1 < 1000000000)⟩
theorem fit_div {z d:Int} (hz:z.natAbs < 1000000000) (hd:1<=d/\d < 1000000000):fit ((z:Rat) / (d:Rat)):=by
 have e:(z:Rat) / (d:Rat)=_root_.mkRat z d.toNat:=by
  rw [Rat.mkRat_eq_div]
  have h:((d.toNat:Nat):Int)=d:=by omega
  have:((d.toNat:Nat):Rat)=((d:Int):Rat):=by rw [<-h]; rfl
  rw [this]
 rw [e]
 obtain ⟨h1,h2,_⟩:=mk_abs (z:=z) (n:=d.toNat) (by omega)
 unfold fit
 rw [h1,h2]
 have h3:=Nat.div_le_self z.natAbs (Nat.gcd z.natAbs d.toNat)
 have h4:=Nat.div_le_self d.toNat (Nat.gcd z.natAbs d.toNat)
 omega
theorem ok_fit {q:Rat} (h:fit q):okO (some q):=fun p hp=>by injection hp with hp; subst hp; exact fit_small h
theorem rd_fit {q:Rat} (h:fit q):rdO (ratD q)=some q:=rdO_ratD (fit_small h)
theorem add_fit {p q:Rat} (h:fit (p+q)):addO (some p) (some q)=some (p+q):=cap_fit h
theorem mul_fit {p q:Rat} (h:fit (p * q)):mulO (some p) (some q)=some (p * q):=cap_fit h
theorem sub_fit {p q:Rat} (h:fit (p - q)):subO (some p) (some q)=some (p - q):=by
 rw [Rat.sub_eq_add_neg] at h ⊢
 exact cap_fit h
theorem cmpQ_le {p q:Rat}:cmpQ p q<=0 ↔ p<=q:=by
 unfold cmpQ
 split
 ·rename_i h; exact ⟨fun _=>Rat.le_of_lt h,fun _=>by decide⟩
 ·split
  ·rename_i h; exact ⟨fun h=>absurd h (by decide),fun h2=>absurd h2 (Rat.not_le.2 h)⟩
  ·rename_i h1 h2; exact ⟨fun _=>Rat.not_lt.1 h2,fun _=>by decide⟩
theorem cmpQ_ge {p q:Rat}:0<=cmpQ p q ↔ q<=p:=by
 unfold cmpQ
 split
 ·rename_i h; exact ⟨fun h=>absurd h (by decide),fun h2=>absurd h2 (Rat.not_le.2 h)⟩
 ·split
  ·rename_i h; exact ⟨fun _=>Rat.le_of_lt h,fun _=>by decide⟩
  ·rename_i h1 h2; exact ⟨fun _=>Rat.not_lt.1 h1,fun _=>by decide⟩
theorem min_int (a b:Int):minO (some (a:Rat)) (some (b:Rat))=some ((min a b:Int):Rat):=by
 show (if cmpQ (a:Rat) (b:Rat)<=0 then some (a:Rat) else some (b:Rat))=_
 by_cases h:a<=b
 ·rw [if_pos (cmpQ_le.2 (Rat.intCast_le_intCast.2 h)),Int.min_eq_left h]
 ·rw [if_neg fun h2=>h (Rat.intCast_le_intCast.1 (cmpQ_le.1 h2)),Int.min_eq_right (by omega)]
theorem add_int {a b:Int} (h:(a+b).natAbs < 1000000000):addO (some (a:Rat)) (some (b:Rat))=some ((a+b:Int):Rat):=by
 rw [add_fit (by rw [<-Rat.intCast_add]; exact fit_int h),Rat.intCast_add]
def fI (L G:Nat->Int):Nat->Int
 | 0=>L 0
 | i+1=>min (L (i+1)) (fI L G i+G i)
def bI (L G:Nat->Int) (n:Nat):Nat->Int
 | 0=>fI L G (n - 1)
 | k+1=>min (fI L G (n - 2 - k)) (bI L G n k+G (n - 2 - k))
def pI (L G:Nat->Int) (n i:Nat):Int:=bI L G n (n - 1 - i)
section
variable {L G:Nat->Int} {n:Nat}
theorem fI_le (i:Nat):fI L G i<=L i:=by
 cases i with
 | zero=>exact Int.le_refl _
 | succ i=>exact Int.min_le_left ..
theorem fI_nn (hL:∀ i,0<=L i) (hG:∀ i,0<=G i):∀ i,0<=fI L G i
 | 0=>hL 0
 | i+1=>by
  have h1:=fI_nn hL hG i
  have h2:=hL (i+1)
  have h3:=hG i
  show 0<=min _ _
  omega
theorem bI_nn (hL:∀ i,0<=L i) (hG:∀ i,0<=G i):∀ k,0<=bI L G n k
 | 0=>fI_nn hL hG _
 | k+1=>by
  have h1:=bI_nn hL hG k
  have h2:=fI_nn hL hG (n - 2 - k)
  have h3:=hG (n - 2 - k)
  show 0<=min _ _
  omega
theorem pI_last:pI L G n (n - 1)=fI L G (n - 1):=by unfold pI; rw [Nat.sub_self]; rfl
theorem pI_step {i:Nat} (h:i+1 < n):pI L G n i=min (fI L G i) (pI L G n (i+1)+G i):=by
 unfold pI
 rw [show n - 1 - i=(n - 1 - (i+1))+1 by omega]
 show min (fI L G (n - 2 - (n - 1 - (i+1)))) (_+G (n - 2 - (n - 1 - (i+1))))=_
 rw [show n - 2 - (n - 1 - (i+1))=i by omega]
theorem pI_fI {i:Nat} (h:i < n):pI L G n i<=fI L G i:=by
 by_cases h1:i+1 < n
 ·rw [pI_step h1]; exact Int.min_le_left ..
 ·rw [show i=n - 1 by omega,pI_last]; exact Int.le_refl _
theorem pI_le {i:Nat} (h:i < n):pI L G n i<=L i:=Int.le_trans (pI_fI h) (fI_le i)
theorem pI_nn (hL:∀ i,0<=L i) (hG:∀ i,0<=G i) (i:Nat):0<=pI L G n i:=bI_nn hL hG _
theorem pI_down {i:Nat} (h:i+1 < n):pI L G n i<=pI L G n (i+1)+G i:=by rw [pI_step h]; exact Int.min_le_right ..
theorem pI_up (hG:∀ i,0<=G i) {i:Nat} (h:i+1 < n):pI L G n (i+1)<=pI L G n i+G i:=by
 have h1:=pI_step (L:=L) (G:=G) h
 have h2:=pI_fI (L:=L) (G:=G) h
 have h3:fI L G (i+1)<=fI L G i+G i:=Int.min_le_right ..
 have h4:=hG i
 omega
theorem fI_mono {L' G':Nat->Int} (hL:∀ i,L' i<=L i) (hG:∀ i,G' i<=G i):∀ i,fI L' G' i<=fI L G i
 | 0=>hL 0
 | i+1=>by
  have h1:=fI_mono hL hG i
  have h2:=hL (i+1)
  have h3:=hG i
  show min _ _<=min _ _
  omega
theorem bI_mono {L' G':Nat->Int} (hL:∀ i,L' i<=L i) (hG:∀ i,G' i<=G i):∀ k,bI L' G' n k<=bI L G n k
 | 0=>fI_mono hL hG _
 | k+1=>by
  have h1:=bI_mono hL hG k
  have h2:=fI_mono hL hG (n - 2 - k)
  have h3:=hG (n - 2 - k)
  show min _ _<=min _ _
  omega
theorem pI_mono {L' G':Nat->Int} (hL:∀ i,L' i<=L i) (hG:∀ i,G' i<=G i) (i:Nat):pI L' G' n i<=pI L G n i:=bI_mono hL hG _
theorem pI_tight (hG:∀ i,0<=G i) {i:Nat} (h:i < n):pI L G n i=L i\/(∃ j,i=j+1/\pI L G n i=pI L G n j+G j)\/(i+1 < n/\pI L G n i=pI L G n (i+1)+G i):=by
 have hf:pI L G n i=fI L G i->pI L G n i=L i\/(∃ j,i=j+1/\pI L G n i=pI L G n j+G j):=by
  intro e
  cases i with
  | zero=>exact .inl e
  | succ j =>
   have h1:fI L G (j+1)=min (L (j+1)) (fI L G j+G j):=rfl
   have h2:=pI_up (L:=L) hG (i:=j) h
   have h3:=pI_fI (L:=L) (G:=G) (n:=n) (i:=j) (by omega)
   by_cases h4:L (j+1)<=fI L G j+G j
   ·left; omega
   ·right; exact ⟨j,rfl,by omega⟩
 by_cases h1:i+1 < n
 ·have h2:=pI_step (L:=L) (G:=G) h1
  by_cases h3:fI L G i<=pI L G n (i+1)+G i
  ·rcases hf (by omega) with h|h
   ·exact .inl h
   ·exact .inr (.inl h)
  ·exact .inr (.inr ⟨h1,by omega⟩)
 ·rcases hf (by rw [show i=n - 1 by omega]; exact pI_last) with h|h
  ·exact .inl h
  ·exact .inr (.inl h)
end
section
variable {l:List DP} {a:Int} {w:List DR} {L G:Nat->Int}
theorem fw_int (hL:∀ i,i < w.length->vl w i=some (L i:Rat)) (hG:∀ i,i+1 < w.length->gn a (pn l i) (pn l (i+1))=some (G i:Rat)) (hLb:∀ i,0<=L i/\L i<=1000000) (hGb:∀ i,0<=G i/\G i<=100000000) :
  ∀ k,k < w.length->∀ i,i < w.length->vl (fwR l a k w) i=some (((if i<=k then fI L G i else L i:Int)):Rat)
 | 0,_,i,hi=>by
  rw [fwR,hL i hi]
  by_cases h:i<=0
  ·rw [if_pos h,show i=0 by omega]; rfl
  ·rw [if_neg h]
 | k+1,hk,i,hi=>by
  have ih:=fw_int hL hG hLb hGb k (by omega)
  rw [fwR,vl_upd (by rw [fwR_len]; exact hk)]
  by_cases h:i=k+1
  ·subst h
   rw [if_pos rfl,ih (k+1) hk,ih k (by omega),hG k hk,if_neg (by omega),if_pos (Nat.le_refl _),if_pos (Nat.le_refl _)]
   have h1:=fI_le (L:=L) (G:=G) k
   have h2:=fI_nn (fun i=>(hLb i).1) (fun i=>(hGb i).1) k
   have h3:=hLb k
   have h4:=hGb k
   rw [add_int (by omega),min_int]; rfl
  ·rw [if_neg h,ih i hi]
   by_cases h1:i<=k
   ·rw [if_pos h1,if_pos (by omega)]
   ·rw [if_neg h1,if_neg (by omega)]
theorem bw_int (hw:0 < w.length) (hL:∀ i,i < w.length->vl w i=some (fI L G i:Rat)) (hG:∀ i,i+1 < w.length->gn a (pn l i) (pn l (i+1))=some (G i:Rat)) (hLb:∀ i,0<=L i/\L i<=1000000) (hGb:∀ i,0<=G i/\G i<=100000000) :
  ∀ k,k < w.length->∀ i,i < w.length->vl (bwR l a w.length k w) i=some (((if w.length - 1 - k<=i then pI L G w.length i else fI L G i:Int)):Rat)
 | 0,_,i,hi=>by
  rw [bwR,hL i hi]
  by_cases h:w.length - 1 - 0<=i
  ·rw [if_pos h,show i=w.length - 1 by omega,pI_last]
  ·rw [if_neg h]
 | k+1,hk,i,hi=>by
  have ih:=bw_int hw hL hG hLb hGb k (by omega)
  rw [bwR,vl_upd (by rw [bwR_len]; omega)]
  by_cases h:i=w.length - 2 - k
  ·have hi1:i+1 < w.length:=by omega
   rw [if_pos h,<-h,ih i hi,ih (i+1) hi1,hG i hi1,if_neg (by omega),if_pos (by omega),if_pos (by omega)]
   have h1:=pI_le (L:=L) (G:=G) hi1
   have h2:=pI_nn (L:=L) (G:=G) (n:=w.length) (fun i=>(hLb i).1) (fun i=>(hGb i).1) (i+1)
   have h3:=hLb (i+1)
   have h4:=hGb i
   rw [add_int (by omega),min_int,pI_step hi1]
  ·rw [if_neg h,ih i hi]
   by_cases h1:w.length - 1 - k<=i
   ·rw [if_pos h1,if_pos (by omega)]
   ·rw [if_neg h1,if_neg (by omega)]
theorem profW_int (hw:0 < w.length) (hL:∀ i,i < w.length->vl w i=some (L i:Rat)) (hG:∀ i,i+1 < w.length->gn a (pn l i) (pn l (i+1))=some (G i:Rat)) (hLb:∀ i,0<=L i/\L i<=1000000) (hGb:∀ i,0<=G i/\G i<=100000000) {i:Nat} (hi:i < w.length) :
  vl (profW l a w) i=some (pI L G w.length i:Rat):=by
 unfold profW
 have h1:=fw_int hL hG hLb hGb (w.length - 1) (by omega)
 have hl:=fwR_len l a (w.length - 1) w
 have h2:=bw_int (l:=l) (a:=a) (w:=fwR l a (w.length - 1) w) (L:=L) (G:=G) (by omega) (fun i hi=>by rw [h1 i (by omega),if_pos (by omega)]) (fun i hi=>hG i (by omega)) hLb hGb (w.length - 1) (by omega) i (by omega)
 rw [hl] at h2
 rw [h2,if_pos (by omega)]
end
end Go.Proofs.YtaflkgjckmfkoaaGreat.DW

namespace Go.Proofs.YtaflkgjckmfkoaaGreat.DW
open Go.RowKit
theorem half_sub (a b:Int):(a:Rat) / 2 - (b:Rat) / 2=((a - b:Int):Rat) / 2:=by
 rw [Rat.intCast_sub]; grind
theorem half_fit {a:Int} (h:a.natAbs < 1000000000):fit ((a:Rat) / 2):=fit_div (d:=2) h (by decide)
theorem half_lt {a b:Int}:(a:Rat) / 2 < (b:Rat) / 2 ↔ a < b:=by
 rw [Rat.div_lt_iff (by decide),Rat.div_mul_cancel (by decide)]
 exact Rat.intCast_lt_intCast
theorem half_le {a b:Int}:(a:Rat) / 2<=(b:Rat) / 2 ↔ a<=b:=by
 rw [<-Rat.not_lt,half_lt]; omega
theorem half_neg (a:Int):-((a:Rat) / 2)=((-a:Int):Rat) / 2:=by
 rw [Rat.intCast_neg]; grind
theorem two_c:((2:Int):Rat)=2:=rfl
theorem one_c:((1:Int):Rat)=1:=rfl
theorem z_half:(0:Rat)=((0:Int):Rat) / 2:=by rw [show ((0:Int):Rat)=0 from rfl]; grind
theorem size_half {a:Int}:sizeO (some ((a:Rat) / 2))=some (((a.natAbs:Int):Rat) / 2):=by
 have hc:sgnO (some ((a:Rat) / 2)) < 0 ↔ a < 0:=by
  show (if (a:Rat) / 2 < 0 then (-1:Int) else if 0 < (a:Rat) / 2 then 1 else 0) < 0 ↔ _
  have h1:(a:Rat) / 2 < 0 ↔ a < 0:=by rw [z_half,half_lt]
  by_cases h:a < 0
  ·rw [if_pos (h1.2 h)]; exact ⟨fun _=>h,fun _=>by decide⟩
  ·rw [if_neg fun h2=>h (h1.1 h2)]
   refine ⟨fun h2=>?_,fun h2=>absurd h2 h⟩
   split at h2<;>exact absurd h2 (by decide)
 unfold sizeO
 by_cases h:a < 0
 ·rw [if_pos (hc.2 h)]
  show some (-((a:Rat) / 2))=_
  rw [half_neg,show ((a.natAbs:Nat):Int)=-a by omega]
 ·rw [if_neg fun h2=>h (hc.1 h2),show ((a.natAbs:Nat):Int)=a by omega]
theorem max_half (a b:Int):maxO (some ((a:Rat) / 2)) (some ((b:Rat) / 2))=some (((max a b:Int):Rat) / 2):=by
 show (if 0<=cmpQ ((a:Rat) / 2) ((b:Rat) / 2) then some ((a:Rat) / 2) else some ((b:Rat) / 2))=_
 by_cases h:b<=a
 ·rw [if_pos (cmpQ_ge.2 (half_le.2 h)),Int.max_eq_left h]
 ·rw [if_neg fun h2=>h (half_le.1 (cmpQ_ge.1 h2)),Int.max_eq_right (by omega)]
def hp (v:Int × Int):DP:=(ratD ((v.1:Rat) / 2),ratD ((v.2:Rat) / 2))
def hpOk (v:Int × Int):Prop:=0<=v.1/\v.1<=100/\0<=v.2/\v.2<=100
def mI (u v:Int × Int):Int:=max ((v.1 - u.1).natAbs:Int) ((v.2 - u.2).natAbs:Int)
theorem mI_rng {u v:Int × Int} (hu:hpOk u) (hv:hpOk v):0<=mI u v/\mI u v<=100:=by
 unfold mI
 obtain ⟨_,_,_,_⟩:=hu
 obtain ⟨_,_,_,_⟩:=hv
 omega
theorem mv_half {u v:Int × Int} (hu:hpOk u) (hv:hpOk v):mvO (hp u) (hp v)=some ((mI u v:Rat) / 2):=by
 obtain ⟨_,_,_,_⟩:=hu
 obtain ⟨_,_,_,_⟩:=hv
 unfold mvO hp
 simp only
 rw [rd_fit (half_fit (by omega)),rd_fit (half_fit (by omega)),rd_fit (half_fit (by omega)),rd_fit (half_fit (by omega))]
 rw [sub_fit (by rw [half_sub]; exact half_fit (by omega)),sub_fit (by rw [half_sub]; exact half_fit (by omega)),half_sub,half_sub,size_half,size_half,max_half]
 rfl
theorem two_half (a m:Int):((2 * a:Int):Rat) * ((m:Rat) / 2)=((a * m:Int):Rat):=by
 rw [Rat.intCast_mul,Rat.intCast_mul,two_c]; grind
theorem gn_half {a:Int} (ha:1<=a/\a<=1000) {u v:Int × Int} (hu:hpOk u) (hv:hpOk v):gn a (hp u) (hp v)=some ((a * mI u v:Int):Rat):=by
 have h1:=mI_rng hu hv
 have h2:0<=a * mI u v:=Int.mul_nonneg (by omega) h1.1
 have h3:a * mI u v<=1000 * 100:=Int.mul_le_mul ha.2 h1.2 h1.1 (by decide)
 unfold gn
 rw [mv_half hu hv,mul_fit (by rw [two_half]; exact fit_int (by omega)),two_half]
def gI (vs:List (Int × Int)) (a:Int) (i:Nat):Int:=if i+1 < vs.length then a * mI (vs.getD i (0,0)) (vs.getD (i+1) (0,0)) else 0
def lI (n:Int) (lims:List Int) (i:Nat):Int:=limA n lims i * limA n lims i
def pth (vs:List (Int × Int)):List DP:=vs.map hp
def pthOk (vs:List (Int × Int)):Prop:=∀ v ∈ vs,hpOk v
section
variable {vs:List (Int × Int)} {a:Int} {lims:List Int}
theorem pn_pth {i:Nat} (h:i < vs.length):pn (pth vs) i=hp (vs.getD i (0,0)):=by
 unfold pn pth
 rw [nth_lt (t:=tPoint) (by rw [List.length_map]; exact h),List.getElem_map,List.getD_eq_getElem?_getD,List.getElem?_eq_getElem h]; rfl
theorem pthOk_at (h:pthOk vs) {i:Nat} (hi:i < vs.length):hpOk (vs.getD i (0,0)):=by
 rw [List.getD_eq_getElem?_getD,List.getElem?_eq_getElem hi]; exact h _ (List.getElem_mem hi)
theorem gI_rng (h:pthOk vs) (ha:1<=a/\a<=1000) (i:Nat):0<=gI vs a i/\gI vs a i<=100000000:=by
 unfold gI
 split
 ·rename_i hi
  have h1:=mI_rng (pthOk_at h (i:=i) (by omega)) (pthOk_at h hi)
  have h2:=Int.mul_nonneg (show 0<=a by omega) h1.1
  have h3:=Int.mul_le_mul ha.2 h1.2 h1.1 (by decide:(0:Int)<=1000)
  omega
 ·omega
theorem gn_pth (h:pthOk vs) (ha:1<=a/\a<=1000) {i:Nat} (hi:i+1 < vs.length):gn a (pn (pth vs) i) (pn (pth vs) (i+1))=some (gI vs a i:Rat):=by
 rw [pn_pth (by omega),pn_pth hi,gn_half ha (pthOk_at h (by omega)) (pthOk_at h hi)]
 unfold gI
 rw [if_pos hi]
theorem lI_rng (h:spdOk vs.length lims) (i:Nat):0<=lI vs.length lims i/\lI vs.length lims i<=1000000:=sq_le (limA_le h i)
theorem vl_spd (h:spdOk vs.length lims) {i:Nat} (hi:i < vs.length):vl (spdL vs.length lims vs.length) i=some (lI vs.length lims i:Rat):=by
 have hr:=lI_rng h i
 have e:nth (t:=tRat) (spdL vs.length lims vs.length) i=ratI (lI vs.length lims i):=by
  rw [nth_lt (by rw [spdL_len]; exact hi)]; simp [spdL,lI]
 unfold vl
 rw [e,ratI_eq,rd_fit (fit_int (by omega))]
theorem spf_int (hv:pthOk vs) (ha:1<=a/\a<=1000) (hl:spdOk vs.length lims):(spf (pth vs) lims a).length=vs.length/\∀ i,i < vs.length->vl (spf (pth vs) lims a) i=some (pI (lI vs.length lims) (gI vs a) vs.length i:Rat):=by
 have hpl:(pth vs).length=vs.length:=List.length_map ..
 have h0:0 < vs.length:=by have:=hl.1; omega
 have hsl:=spdL_len vs.length lims vs.length
 have key:∀ i,i < vs.length->vl (profW (pth vs) a (spdL vs.length lims vs.length)) i=some (pI (lI vs.length lims) (gI vs a) vs.length i:Rat):=fun i hi=>by
  have:=profW_int (l:=pth vs) (a:=a) (w:=spdL vs.length lims vs.length) (L:=lI vs.length lims) (G:=gI vs a) (by omega) (fun i hi=>vl_spd hl (by omega)) (fun i hi=>gn_pth hv ha (by omega)) (fun i=>lI_rng hl i) (fun i=>gI_rng hv ha i) (i:=i) (by omega)
  rw [hsl] at this
  exact this
 have hlen:(profW (pth vs) a (spdL vs.length lims vs.length)).length=vs.length:=by unfold profW; rw [bwR_len,fwR_len,hsl]
 have hgood:allGood (profW (pth vs) a (spdL vs.length lims vs.length))=true:=by
  unfold allGood
  rw [Bool.not_eq_true',List.any_eq_false]
  intro r hr
  obtain ⟨i,hi,rfl⟩:=List.getElem_of_mem hr
  have h2:=key i (by omega)
  unfold vl at h2
  rw [nth_lt hi] at h2
  unfold okR
  rw [h2]; simp
 have e:spf (pth vs) lims a=profW (pth vs) a (spdL vs.length lims vs.length):=by
  rw [spf_t (by rw [hpl]; exact hl),hpl]
  unfold prof
  rw [hgood,decide_eq_true ha]; rfl
 rw [e]
 exact ⟨hlen,key⟩
end
end Go.Proofs.YtaflkgjckmfkoaaGreat.DW

namespace Go.Proofs.YtaflkgjckmfkoaaGreat.DW
open Go.RowKit
abbrev DV:Type:=Int × Int
end Go.Proofs.YtaflkgjckmfkoaaGreat.DW

namespace Go.Proofs.YtaflkgjckmfkoaaGreat.DW
open Go.RowKit
end Go.Proofs.YtaflkgjckmfkoaaGreat.DW

namespace Go.Proofs.YtaflkgjckmfkoaaGreat.DW
open Go.RowKit
def ltV (a b:DV):Prop:=a.1 < b.1\/a.1=b.1/\a.2 < b.2
instance (a b:DV):Decidable (ltV a b):=by unfold ltV; infer_instance
end Go.Proofs.YtaflkgjckmfkoaaGreat.DW

namespace Go.Proofs.YtaflkgjckmfkoaaGreat.DW
open Go.RowKit
end Go.Proofs.YtaflkgjckmfkoaaGreat.DW

namespace Go.Proofs.YtaflkgjckmfkoaaGreat.DW
open Go.RowKit
section
variable {P:Program} {f:FuncId} {fn:Func} {code:Code}
theorem drep_int {w:World} {v:Value} {n:Int} {fp:List Nat} (h:DRep w v ⟨.int,n⟩ fp):v=.int .i64 n:=by
 obtain ⟨cs,hp,hr⟩:=h
 rcases hp with ⟨h,_⟩|⟨_,rfl⟩
 ·cases h
 ·exact (List.cons.inj hr.1).1
theorem dres_int {own:Bool} {base:Nat} {S:Nat->Prop} {w:World} {n:Int} (h:I64 n):DRes own base S w (.int .i64 n) ⟨.int,n⟩:=⟨[],⟨[_],.inr ⟨rfl,rfl⟩,rfl,rfl,h⟩,fun _=>ownFp_nil _ _,fun b hb=>by cases hb⟩
variable (en:∀ vs w,(callFunc f vs).run P w=.ok (.enter f vs) w)
include en
theorem Fn.ofInt {t:Ty} {x:t.den} {n r:Int} (hI:I64 r) (h:∀ w v cs,pk t v cs->Has t.rp w cs x->Calls P f #[v,.int .i64 n] w (Post fun v w'=>v=.int .i64 r/\Below w.heap.size w w')):Fn P f [⟨t,x⟩,⟨.int,n⟩] false [⟨.int,r⟩]:=by
 refine ⟨en,fun w vs S ha=>?_⟩
 match vs,ha with
 | [v1,v2],⟨⟨fp1,⟨cs,hp,hr⟩,_⟩,⟨fp2,h2,_⟩,_⟩ =>
  obtain rfl:=drep_int h2
  refine (h w v1 cs hp ⟨fp1,hr⟩).mono fun e w' ⟨v,he,hv,hb⟩=>⟨hb,v,he,?_⟩
  subst hv
  exact dres_int hI
 | [],ha=>exact ha.elim
 | [_],ha=>exact ha.2.elim
 | _ :: _ :: _ :: _,ha=>exact ha.2.2.elim
theorem FnM.of {t:Ty} {x x':t.den} {k r:Int} (hI:I64 r) (h:∀ w v cs fp,pk t v cs->t.rp.rep w cs x fp->fp.Nodup->(∀ b ∈ fp,Free w b)->Calls P f #[v,.int .i64 k] w (Post (MarkPost t.rp cs x' fp r w))):FnM P f t x x' k r:=⟨en,hI,h⟩
end
@[go_sem] theorem ex_row {i ver:Nat} {p:Nat->Prop}:(∃ k,AV.row i ver=AV.row k ver/\p k)=p i:=propext ⟨fun ⟨k,e,h⟩=>by injection e with e; exact e ▸ h,fun h=>⟨i,rfl,h⟩⟩
@[go_sem] theorem eqb_self {α:Type} (a:α):eqb a a=true:=eqb_true rfl
end Go.Proofs.YtaflkgjckmfkoaaGreat.DW

namespace Go.Proofs.YtaflkgjckmfkoaaGreat
open Go.RowKit
section
variable {o:Bool} {base:Nat} {w w':World} {e:TypeId} {v:Value} {l:List Int}
theorem GrowInt.row (h:Grow Rp.int o base w e v l):w.ownsRow base e 1 v l.length (l.map (Value.int .i64))/\∀ x ∈ l,I64 x:=by
 obtain ⟨xs,fps,ho,hl,he,_,_⟩:=h
 have hxl:xs.length=l.length:=by have:=ho.1; simpa [Rp.int] using this
 have hall:∀ (i:Nat) (x:Int),l[i]? = some x->xs[i]? = some (Value.int .i64 x)/\I64 x:=by
  intro i x hx
  obtain ⟨f,cs,_,hr,hc⟩:=he i x hx
  obtain ⟨rfl,_,hI⟩:=hr
  exact ⟨by simpa [Rp.int] using hc 0 _ rfl,hI⟩
 have hxs:xs=l.map (Value.int .i64):=by
  apply List.ext_getElem?
  intro i
  rw [List.getElem?_map]
  rcases Nat.lt_or_ge i l.length with hi|hi
  ·have:=(hall i l[i] (List.getElem?_eq_getElem hi)).1
   rw [this,List.getElem?_eq_getElem hi]; rfl
  ·rw [List.getElem?_eq_none (by omega),List.getElem?_eq_none hi]; rfl
 refine ⟨hxs ▸ ho,fun x hx=>?_⟩
 obtain ⟨i,hi,rfl⟩:=List.getElem_of_mem hx
 exact (hall i _ (List.getElem?_eq_getElem hi)).2
theorem flatten_nils (n:Nat):(List.replicate n ([]:List Nat)).flatten=[]:=by
 induction n with
 | zero=>rfl
 | succ n ih=>simp
theorem GrowInt.of (h:w.ownsRow base e 1 v l.length (l.map (Value.int .i64))) (hI:∀ x ∈ l,I64 x):Grow Rp.int o base w e v l:=by
 refine ⟨l.map (Value.int .i64),List.replicate l.length [],h,by simp,fun i x hx=>?_,fun b hb=>?_,fun _=>⟨?_,fun b hb=>?_⟩⟩
 ·have hi:=(List.getElem?_eq_some_iff.1 hx).1
  refine ⟨[],[.int .i64 x],by simp [hi],⟨rfl,rfl,hI x (List.mem_of_getElem? hx)⟩,fun j c hc=>?_⟩
  cases j with
  | zero=>simp at hc; subst hc; simp [Rp.int,hx]
  | succ j=>simp at hc
 ·rw [flatten_nils] at hb; cases hb
 ·rw [flatten_nils]; exact List.nodup_nil
 ·rw [flatten_nils] at hb; cases hb
end
section
variable {P:Program} (w:World)
end
end Go.Proofs.YtaflkgjckmfkoaaGreat

namespace Go.Proofs.YtaflkgjckmfkoaaGreat
open Go.RowKit
end Go.Proofs.YtaflkgjckmfkoaaGreat

namespace Go.Proofs.YtaflkgjckmfkoaaGreat
open Go.RowKit
def New {α:Type} (A:Rp α) (base:Nat) (w:World) (cs:List Value) (a:α):Prop:=∃ fp,A.rep w cs a fp/\∀ b ∈ fp,base<=b
theorem Own.new {α:Type} {A:Rp α} {base:Nat} {w:World} {cs:List Value} {a:α} (h:Own A base w cs a):New A base w cs a:=let ⟨fp,hr,_,ho⟩:=h; ⟨fp,hr,fun b hb=>(ho b hb).1⟩
theorem New.has {α:Type} {A:Rp α} {base:Nat} {w:World} {cs:List Value} {a:α} (h:New A base w cs a):Has A w cs a:=let ⟨fp,hr,_⟩:=h; ⟨fp,hr⟩
theorem New.below {α:Type} {A:Rp α} {base:Nat} {w w':World} {cs:List Value} {a:α} (h:New A base w cs a) (hb:Below w.heap.size w w'):New A base w' cs a :=
 let ⟨fp,hr,ho⟩:=h; ⟨fp,A.frame hr fun b hb'=>hb.block b (A.lt hr b hb'),ho⟩
theorem New.mono {α:Type} {A:Rp α} {base base':Nat} {w:World} {cs:List Value} {a:α} (h:New A base w cs a) (hb:base'<=base):New A base' w cs a:=let ⟨fp,hr,ho⟩:=h; ⟨fp,hr,fun b hb'=>Nat.le_trans hb (ho b hb')⟩
theorem New.frame {α:Type} {A:Rp α} {base:Nat} {w w':World} {cs:List Value} {a:α} (h:New A base w cs a) (hf:∀ b,base<=b->b < w.heap.size->w'.heap[b]? = w.heap[b]?):New A base w' cs a :=
 let ⟨fp,hr,ho⟩:=h; ⟨fp,A.frame hr fun b hb'=>hf b (ho b hb') (A.lt hr b hb'),ho⟩
theorem New.setCell {α:Type} {A:Rp α} {base:Nat} {w:World} {cs:List Value} {a:α} (h:New A base w cs a) {p:Addr} (hp:p.block < base) (v:Value):New A base (w.setCell p v) cs a :=
 h.frame fun b h1 _=>Below.heap_setCell _ _ _ _ (by omega)
theorem New.bool (base:Nat) (w:World) (b:Bool):New Rp.bool base w [.bool b] b:=⟨[],⟨rfl,rfl⟩,fun _ h=>by cases h⟩
theorem New.int (base:Nat) (w:World) {n:Int} (h:I64 n):New Rp.int base w [.int .i64 n] n:=⟨[],⟨rfl,rfl,h⟩,fun _ h=>by cases h⟩
theorem Has.ofInt (w:World) {n:Int} (h:I64 n):Has Rp.int w [.int .i64 n] n:=⟨[],rfl,rfl,h⟩
end Go.Proofs.YtaflkgjckmfkoaaGreat

namespace Go.Proofs.YtaflkgjckmfkoaaGreat
open Go.RowKit DW
end Go.Proofs.YtaflkgjckmfkoaaGreat

namespace Go.Proofs.YtaflkgjckmfkoaaGreat.DW
open Go.RowKit
end Go.Proofs.YtaflkgjckmfkoaaGreat.DW

namespace Go.Proofs.YtaflkgjckmfkoaaGreat.DW
open Go.RowKit
def ptV (v:DV):DP:=(ratI v.1,ratI v.2)
theorem PointOfS_fn (v:DV):Fn Tryz.prog 45 [⟨tVec,v⟩] true [⟨tPoint,ptV v⟩]:=by
 have c1:=RatFromInt_fn v.1
 have c2:=RatFromInt_fn v.2
 unfold ptV
 refine fn_enter tabOK mixes Tryz.func45 rfl rfl _ Tryz.ntmps45 _ Tryz.results45 (by simp) fun hwf=>?_
 try simp (maxSteps:=9^9) only[go_sem]
 repeat refine And.intro (by first|omega|(constructor<;>omega)|kernel_rfl) ?_
 refine CallW.mk (c1) ?_
 try simp (maxSteps:=9^9) only[go_sem]
 repeat refine And.intro (by first|omega|(constructor<;>omega)|kernel_rfl) ?_
 refine CallW.mk (c2) ?_
 try simp (maxSteps:=9^9) only[go_sem]
 all_goals repeat refine And.intro (by first|omega|(constructor<;>omega)|kernel_rfl) ?_
 all_goals first|kernel_rfl|omega|rfl
end Go.Proofs.YtaflkgjckmfkoaaGreat.DW

namespace Go.Proofs.YtaflkgjckmfkoaaGreat.DW
open Go.RowKit
variable {code:List Int}
def atK (c:Cu code):Int × Int:=(2 * (1+c.below 22)+(if c.next.next.below 2=0 then 1 else 0),2 * (1+c.next.below 18))
theorem atK_ok (c:Cu code):hpOk (atK c):=by
 have h1:=c.below_rng (n:=22) (by decide)
 have h2:=c.next.below_rng (n:=18) (by decide)
 unfold hpOk atK
 simp only
 split<;>omega
theorem ratI_half (x:Int):ratI x=ratD (((2 * x:Int):Rat) / 2):=by
 rw [ratI_eq]
 refine congrArg ratD ?_
 rw [Rat.intCast_mul,two_c]; grind
theorem half_up (x:Int):(x:Rat)+((1:Int):Rat) / ((2:Int):Rat)=((2 * x+1:Int):Rat) / 2:=by
 rw [Rat.intCast_add,Rat.intCast_mul,two_c,one_c]; grind
theorem l11At_fn (hc:code.length<=1048576) (c:Cu code):Dr 22 c c.next.next.next [] true ⟨tPoint,hp (atK c)⟩:=by
 have h1:=c.below_rng (n:=22) (by decide)
 have h2:=c.next.below_rng (n:=18) (by decide)
 have cp:=PointOfS_fn (1+c.below 22,1+c.next.below 18)
 have cr:=RatOfS_fn 1 2 (by decide) (by decide)
 have hh:fit (((1:Int):Rat) / ((2:Int):Rat)):=fit_div (by decide) (by decide)
 rw [cap_fit hh] at cr
 have ca:=specRatAdd_fn (ptV (1+c.below 22,1+c.next.below 18)).1 (oD (some (((1:Int):Rat) / ((2:Int):Rat))))
 rw [show rdO (ptV (1+c.below 22,1+c.next.below 18)).1=some ((1+c.below 22:Int):Rat) by rw [show (ptV (1+c.below 22,1+c.next.below 18)).1=ratI (1+c.below 22) from rfl,ratI_eq]; exact rd_fit (fit_int (by omega)),rdO_oD (ok_fit hh),add_fit (by rw [half_up]; exact half_fit (by omega)),half_up] at ca
 by_cases hb:c.next.next.below 2=0
 ·have e:hp (atK c)=(oD (some (((2 * (1+c.below 22)+1:Int):Rat) / 2)),(ptV (1+c.below 22,1+c.next.below 18)).2):=by
   have e1:(ptV (1+c.below 22,1+c.next.below 18)).2=ratD (((2 * (1+c.next.below 18):Int):Rat) / 2):=ratI_half _
   rw [e1]; unfold atK; rw [if_pos hb]; rfl
  rw [e]
  refine fnC_enter tabOK mixes Tryz.func22 rfl rfl _ Tryz.ntmps22 _ Tryz.results22 (by simp) (cz_ok hc _) (cz_one _) fun b u0 hwl hzs hwf=>?_
  try simp (maxSteps:=9^9) only[go_sem]
  repeat refine And.intro (by first|omega|(constructor<;>omega)|kernel_rfl) ?_
  refine CallW.c false (l01Below_fn hc c 22 (by omega)) ?_
  try simp (maxSteps:=9^9) only[go_sem]
  repeat refine And.intro (by first|omega|(constructor<;>omega)|kernel_rfl) ?_
  refine CallW.c false (l01Below_fn hc c.next 18 (by omega)) ?_
  try simp (maxSteps:=9^9) only[go_sem]
  repeat refine And.intro (by first|omega|(constructor<;>omega)|kernel_rfl) ?_
  refine CallW.mk (cp) ?_
  try simp (maxSteps:=9^9) only[go_sem]
  repeat refine And.intro (by first|omega|(constructor<;>omega)|kernel_rfl) ?_
  refine CallW.c false (l01Once_fn hc c.next.next 2 (by omega)) ?_
  try simp (maxSteps:=9^9) only[go_sem]
  refine CondW_dec (fun hB=>?_) (fun hB=>absurd hb hB)
  try simp (maxSteps:=9^9) only[go_sem]
  repeat refine And.intro (by first|omega|(constructor<;>omega)|kernel_rfl) ?_
  refine CallW.mk (cr) ?_
  try simp (maxSteps:=9^9) only[go_sem]
  repeat refine And.intro (by first|omega|(constructor<;>omega)|kernel_rfl) ?_
  refine CallW.mk (ca) ?_
  try simp (maxSteps:=9^9) only[go_sem]
  all_goals repeat refine And.intro (by first|omega|(constructor<;>omega)|kernel_rfl) ?_
  all_goals first|kernel_rfl|omega|rfl
 ·have e:hp (atK c)=ptV (1+c.below 22,1+c.next.below 18):=by
   unfold atK; rw [if_neg hb,Int.add_zero]
   unfold ptV hp
   rw [ratI_half,ratI_half]
  rw [e]
  refine fnC_enter tabOK mixes Tryz.func22 rfl rfl _ Tryz.ntmps22 _ Tryz.results22 (by simp) (cz_ok hc _) (cz_one _) fun b u0 hwl hzs hwf=>?_
  try simp (maxSteps:=9^9) only[go_sem]
  repeat refine And.intro (by first|omega|(constructor<;>omega)|kernel_rfl) ?_
  refine CallW.c false (l01Below_fn hc c 22 (by omega)) ?_
  try simp (maxSteps:=9^9) only[go_sem]
  repeat refine And.intro (by first|omega|(constructor<;>omega)|kernel_rfl) ?_
  refine CallW.c false (l01Below_fn hc c.next 18 (by omega)) ?_
  try simp (maxSteps:=9^9) only[go_sem]
  repeat refine And.intro (by first|omega|(constructor<;>omega)|kernel_rfl) ?_
  refine CallW.mk (cp) ?_
  try simp (maxSteps:=9^9) only[go_sem]
  repeat refine And.intro (by first|omega|(constructor<;>omega)|kernel_rfl) ?_
  refine CallW.c false (l01Once_fn hc c.next.next 2 (by omega)) ?_
  try simp (maxSteps:=9^9) only[go_sem]
  refine CondW_dec (fun hB=>absurd hB hb) (fun hB=>?_)
  try simp (maxSteps:=9^9) only[go_sem]
  all_goals repeat refine And.intro (by first|omega|(constructor<;>omega)|kernel_rfl) ?_
  all_goals first|kernel_rfl|omega|rfl
def mpC (c:Cu code):Nat->Cu code
 | 0=>c.next.next.next.next
 | k+1=>(mpC c k).next.next.next.next
def mpV (c:Cu code):Nat->List (Int × Int)
 | 0=>[atK c]
 | k+1=>mpV c k++[atK (mpC c k)]
def mpL (c:Cu code):Nat->List Int
 | 0=>[]
 | k+1=>mpL c k++[1+(mpC c k).next.next.next.below 20]
theorem mpV_len (c:Cu code):∀ k,(mpV c k).length=k+1
 | 0=>rfl
 | k+1=>by rw [mpV,List.length_append,mpV_len c k]; rfl
theorem mpL_len (c:Cu code):∀ k,(mpL c k).length=k
 | 0=>rfl
 | k+1=>by rw [mpL,List.length_append,mpL_len c k]; rfl
theorem mpV_ok (c:Cu code):∀ k,pthOk (mpV c k)
 | 0=>fun v hv=>by rw [mpV,List.mem_singleton] at hv; subst hv; exact atK_ok c
 | k+1=>fun v hv=>by
  rw [mpV,List.mem_append,List.mem_singleton] at hv
  rcases hv with hv|rfl
  ·exact mpV_ok c k v hv
  ·exact atK_ok _
theorem mpL_ok (c:Cu code):∀ k,∀ x ∈ mpL c k,1<=x/\x<=20
 | 0=>fun x hx=>by cases hx
 | k+1=>fun x hx=>by
  rw [mpL,List.mem_append,List.mem_singleton] at hx
  rcases hx with hx|rfl
  ·exact mpL_ok c k x hx
  ·have:=(mpC c k).next.next.next.below_rng (n:=20) (by decide); omega
def mkN (code:List Int) (hc:code.length<=1048576):Nat:=(1+(Cu.new code hc).next.next.next.below 5).toNat
theorem mkN_rng (hc:code.length<=1048576):1<=mkN code hc/\mkN code hc<=5:=by
 have:=(Cu.new code hc).next.next.next.below_rng (n:=5) (by decide)
 unfold mkN; omega
def mkV (code:List Int) (hc:code.length<=1048576):List (Int × Int):=mpV (Cu.new code hc) (mkN code hc)
def mkL (code:List Int) (hc:code.length<=1048576):List Int:=mpL (Cu.new code hc) (mkN code hc)
theorem pth_snoc (vs:List (Int × Int)) (v:Int × Int):pth (vs++[v])=pth vs++[hp v]:=by unfold pth; rw [List.map_append]; rfl
theorem MakePath_fn (hc:code.length<=1048576):Fn Tryz.prog 6 [⟨.slice .u8,code⟩] false [⟨.slice tPoint,pth (mkV code hc)⟩,⟨tInts,mkL code hc⟩]:=by
 have hN:=mkN_rng hc
 have hb:=(Cu.new code hc).next.next.next.below_rng (n:=5) (by decide)
 have eN:1+(Cu.new code hc).next.next.next.below 5=(mkN code hc:Int):=by unfold mkN; omega
 refine fn_enter tabOK mixes Tryz.func6 rfl rfl _ Tryz.ntmps6 _ Tryz.results6 (by simp) fun hwf=>?_
 try simp (maxSteps:=9^9) only[go_sem]
 repeat refine And.intro (by first|omega|(constructor<;>omega)|kernel_rfl) ?_
 refine CallW.nb (l01New_fn hc) ?_
 try simp (maxSteps:=9^9) only[go_sem]
 repeat refine And.intro (by first|omega|(constructor<;>omega)|kernel_rfl) ?_
 refine CallW.c false (l11At_fn hc (Cu.new code hc)) ?_
 try simp (maxSteps:=9^9) only[go_sem]
 repeat refine And.intro (by first|omega|(constructor<;>omega)|kernel_rfl) ?_
 refine CallW.c false (l01Below_fn hc (Cu.new code hc).next.next.next 5 (by omega)) ?_
 try simp (maxSteps:=9^9) only[go_sem]
 repeat refine And.intro (by first|omega|(constructor<;>omega)|kernel_rfl) ?_
 rw [eN]
 refine LoopG.intro _ _ _ (fun k:Nat=>⟨[(4,.ptr 0 0),(5,.row 5 0),(6,.row 6 0),(7,.sc (.int .i64 ((mkN code hc:Int) - k)))],[(0,.box (.sl .u8 code :: (cz (mpC (Cu.new code hc) k)).map fun z=>.sc z)),(5,.row 45 tPoint 0 true (pth (mpV (Cu.new code hc) k))),(6,.row 3 .int 0 true (mpL (Cu.new code hc) k))]⟩) (fun k=>k<=mkN code hc) (fun k=>mkN code hc - k) 0 ?_ (Nat.zero_le _) ?_
 ·refine Wk.mk [] ?_
  try simp (maxSteps:=9^9) only[go_sem]
  try (and_intros<;>first|rfl|omega|exact ⟨_,rfl⟩)
 ·rintro k hk
  have hl1:=mpV_len (Cu.new code hc) k
  have hl2:=mpL_len (Cu.new code hc) k
  have hl3:(pth (mpV (Cu.new code hc) k)).length=k+1:=by unfold pth; rw [List.length_map]; exact hl1
  try simp (maxSteps:=9^9) only[go_sem]
  refine CondW_dec (fun hA=>?_) (fun hA=>?_)
  ·try simp (maxSteps:=9^9) only[go_sem]
   repeat refine And.intro (by first|omega|(constructor<;>omega)|kernel_rfl) ?_
   refine CallW.c false (l11At_fn hc (mpC (Cu.new code hc) k)) ?_
   try simp (maxSteps:=9^9) only[go_sem]
   try simp (maxSteps:=9^9) only[go_sem,hl3]
   repeat refine And.intro (by first|omega|(constructor<;>omega)|kernel_rfl) ?_
   refine CallW.c false (l01Below_fn hc (mpC (Cu.new code hc) k).next.next.next 20 (by omega)) ?_
   try simp (maxSteps:=9^9) only[go_sem]
   repeat refine And.intro (by first|omega|(constructor<;>omega)|kernel_rfl) ?_
   have hb2:=(mpC (Cu.new code hc) k).next.next.next.below_rng (n:=20) (by decide)
   try simp (maxSteps:=9^9) only[go_sem,hl2]
   repeat refine And.intro (by first|omega|(constructor<;>omega)|kernel_rfl) ?_
   refine LoopK.mk (k+1) ?_ (by omega) (by omega)
   have e1:pth (mpV (Cu.new code hc) (k+1))=pth (mpV (Cu.new code hc) k)++[hp (atK (mpC (Cu.new code hc) k))]:=pth_snoc _ _
   have e2:mpL (Cu.new code hc) (k+1)=mpL (Cu.new code hc) k++[1+(mpC (Cu.new code hc) k).next.next.next.below 20]:=rfl
   rw [e1,e2]
   refine Wk.mk [] ?_
   try simp (maxSteps:=9^9) only[go_sem]
   try (and_intros<;>first|rfl|omega|exact ⟨_,rfl⟩)
  ·have e:mkN code hc=k:=by omega
   have e1:mkV code hc=mpV (Cu.new code hc) k:=by unfold mkV; rw [e]
   have e2:mkL code hc=mpL (Cu.new code hc) k:=by unfold mkL; rw [e]
   rw [e1,e2]
   try simp (maxSteps:=9^9) only[go_sem]
end Go.Proofs.YtaflkgjckmfkoaaGreat.DW

namespace Go.Proofs.YtaflkgjckmfkoaaGreat.DW
open Go.RowKit
def ipP (l:List DP) (lims:List Int) (a:Int) (w:List DR) (i:Nat):Prop :=
 0<=sgnO (vl w i)/\cmpO (vl w i) (some ((limA l.length lims i * limA l.length lims i:Int):Rat))<=0 ∧
 (0 < i->(sizeO (subO (vl w i) (vl w (i - 1)))).isSome=true/\cmpO (sizeO (subO (vl w i) (vl w (i - 1)))) (gn a (pn l (i - 1)) (pn l (i - 1+1)))<=0)
set_option maxRecDepth 100000 in
set_option maxHeartbeats 4000000 in
theorem IsProfile_fn (l:List DP) (lims:List Int) (a:Int) (w:List DR) (hok:spdOk l.length lims) (ha:1<=a/\a<=1000) (hw:w.length=l.length) (hr:∀ i,i < w.length->okR (nth (t:=tRat) w i)=true) (hg:∀ i,i+1 < l.length->(gn a (pn l i) (pn l (i+1))).isSome=true) (hl:l.length<=16777216) :
  Fn Tryz.prog 11 [⟨.slice tPoint,l⟩,⟨tInts,lims⟩,⟨.int,a⟩,⟨.slice tRat,w⟩] false [⟨.bool,bdec (∀ i,i < l.length->ipP l lims a w i)⟩]:=by
 have h0:0 < l.length:=by have:=hok.1; omega
 have c1:=implSpeedLimits_fn l.length lims (by have:=hok.2.1; omega)
 rw [spd_t hok] at c1
 have hn:((l.length:Int)).toNat=l.length:=by omega
 rw [hn] at c1
 have hsl:=spdL_len l.length lims l.length
 have c2:=isSpeed_fn a
 rw [decide_eq_true ha] at c2
 have c3:=allRats_fn w
 have hall:(w.any fun r=>!okR r)=false:=by
  rw [List.any_eq_false]
  intro r hr2
  obtain ⟨i,hi,rfl⟩:=List.getElem_of_mem hr2
  have:=hr i hi
  rw [nth_lt hi] at this
  rw [this]; decide
 rw [hall] at c3
 have c4:=gains_ok l a ha h0 hl hg
 have hgl:=gnL_len l a (l.length - 1)
 have hne:spdL l.length lims l.length ≠ []:=fun e=>by rw [e] at hsl; simp at hsl; omega
 have dW:((w.length:Int)=(l.length:Int)):=by omega
 refine fn_enter tabOK mixes Tryz.func11 rfl rfl _ Tryz.ntmps11 _ Tryz.results11 (by simp) fun hwf=>?_
 try simp (maxSteps:=9^9) only[go_sem]
 repeat refine And.intro (by first|omega|(constructor<;>omega)|kernel_rfl) ?_
 refine CallW.mk (c1) ?_
 try simp (maxSteps:=9^9) only[go_sem]
 refine NilW.non hne ?_
 try simp (maxSteps:=9^9) only[go_sem]
 repeat refine And.intro (by first|omega|(constructor<;>omega)|kernel_rfl) ?_
 refine CallW.mk (c2) ?_
 try simp (maxSteps:=9^9) only[go_sem]
 try simp (maxSteps:=9^9) only[go_sem,dW]
 repeat refine And.intro (by first|omega|(constructor<;>omega)|kernel_rfl) ?_
 refine CallW.mk (c3) ?_
 try simp (maxSteps:=9^9) only[go_sem]
 repeat refine And.intro (by first|omega|(constructor<;>omega)|kernel_rfl) ?_
 refine CallW.mk (c4) ?_
 try simp (maxSteps:=9^9) only[go_sem]
 refine LoopG.intro _ _ _ (fun i:Nat=>⟨[(3,.sl tRat w),(9,.row 0 0),(10,.sl tRat (gnL l a (l.length - 1))),(46,.sl tRat w),(47,.sc (.int .i64 w.length)),(48,.sc (.int .i64 i))],[(0,.odat tRat (spdL l.length lims l.length))]⟩) (fun i=>i<=l.length/\∀ j,j < i->ipP l lims a w j) (fun i=>l.length - i) 0 ?_ ⟨Nat.zero_le _,fun j h=>absurd h (Nat.not_lt_zero _)⟩ ?_
 ·refine Wk.mk [] ?_
  try simp (maxSteps:=9^9) only[go_sem]
  try (and_intros<;>first|rfl|omega|exact ⟨_,rfl⟩)
 ·rintro i ⟨hi,hall2⟩
  try simp (maxSteps:=9^9) only[go_sem]
  refine CondW_dec (fun hA=>?_) (fun hA=>?_)
  ·have hlt:i < l.length:=by omega
   have vk:∀ j,j < w.length->oD (vl w j)=nth (t:=tRat) w j:=fun j hj=>okR_oD (hr j hj)
   have hLe:=limA_le hok i
   have hsq:=sq_le hLe
   have okL:okO (some ((limA l.length lims i * limA l.length lims i:Int):Rat)):=fun q hq=>by
    injection hq with hq; subst hq
    exact ⟨Nat.le_trans (nl_small (n:=(limA l.length lims i * limA l.length lims i).natAbs) (by omega)) (by decide),Nat.le_trans (nl_small (n:=1) (by decide)) (by decide)⟩
   have em:nth (t:=tRat) (spdL l.length lims l.length) i=oD (some ((limA l.length lims i * limA l.length lims i:Int):Rat)):=by
    rw [nth_lt (by rw [hsl]; exact hlt)]
    simp only [spdL,List.getElem_map,List.getElem_range]
    exact ratI_eq _
   have c5:=ratSign_fn (vl w i)
   rw [vk i (by omega)] at c5
   have c6:=ratCmp_fn (vl w i) (some ((limA l.length lims i * limA l.length lims i:Int):Rat)) (okO_vl _ _) okL
   rw [vk i (by omega),<-em] at c6
   by_cases s1:sgnO (vl w i) < 0
   ·rw [bdec_f (p:=∀ i,i < l.length->ipP l lims a w i) fun h=>by have:=(h i hlt).1; omega]
    try simp (maxSteps:=9^9) only[go_sem]
    repeat refine And.intro (by first|omega|(constructor<;>omega)|kernel_rfl) ?_
    refine CallW.mk (c5) ?_
    try simp (maxSteps:=9^9) only[go_sem]
    try simp (maxSteps:=9^9) only[go_sem,s1]
    all_goals repeat refine And.intro (by first|omega|(constructor<;>omega)|kernel_rfl) ?_
    all_goals first|kernel_rfl|omega|rfl
   ·by_cases s2:0 < cmpO (vl w i) (some ((limA l.length lims i * limA l.length lims i:Int):Rat))
    ·rw [bdec_f (p:=∀ i,i < l.length->ipP l lims a w i) fun h=>by have:=(h i hlt).2.1; omega]
     try simp (maxSteps:=9^9) only[go_sem]
     repeat refine And.intro (by first|omega|(constructor<;>omega)|kernel_rfl) ?_
     refine CallW.mk (c5) ?_
     try simp (maxSteps:=9^9) only[go_sem]
     try simp (maxSteps:=9^9) only[go_sem,s1,hsl]
     repeat refine And.intro (by first|omega|(constructor<;>omega)|kernel_rfl) ?_
     refine CallW.mk (c6) ?_
     try simp (maxSteps:=9^9) only[go_sem]
     try simp (maxSteps:=9^9) only[go_sem,s2]
     all_goals repeat refine And.intro (by first|omega|(constructor<;>omega)|kernel_rfl) ?_
     all_goals first|kernel_rfl|omega|rfl
    ·by_cases s3:(i:Int)=0
     ·have hi0:i=0:=by omega
      have d3:decide ((i:Int)=0)=true:=decide_eq_true s3
      try simp (maxSteps:=9^9) only[go_sem]
      repeat refine And.intro (by first|omega|(constructor<;>omega)|kernel_rfl) ?_
      refine CallW.mk (c5) ?_
      try simp (maxSteps:=9^9) only[go_sem]
      try simp (maxSteps:=9^9) only[go_sem,s1,hsl]
      repeat refine And.intro (by first|omega|(constructor<;>omega)|kernel_rfl) ?_
      refine CallW.mk (c6) ?_
      try simp (maxSteps:=9^9) only[go_sem]
      try simp (maxSteps:=9^9) only[go_sem,s2]
      repeat refine And.intro (by first|omega|(constructor<;>omega)|kernel_rfl) ?_
      try simp (maxSteps:=9^9) only[go_sem,d3]
      repeat refine And.intro (by first|omega|(constructor<;>omega)|kernel_rfl) ?_
      refine LoopK.mk (i+1) ?_ ⟨by omega,fun j hj=>?_⟩ (by omega)
      ·refine Wk.mk [] ?_
       try simp (maxSteps:=9^9) only[go_sem]
       try (and_intros<;>first|rfl|omega|exact ⟨_,rfl⟩)
      ·rw [show j=i by omega]
       exact ⟨by omega,by omega,fun h=>absurd h (by omega)⟩
     ·have d3:decide ((i:Int)=0)=false:=decide_eq_false s3
      have e1:((i:Int) - 1).toNat=i - 1:=by omega
      have hgi:=hg (i - 1) (by omega)
      have c7:Fn Tryz.prog 38 [⟨tRat,nth (t:=tRat) w i⟩,⟨tRat,nth (t:=tRat) w ((i:Int) - 1).toNat⟩] true [⟨tRat,oD (subO (vl w i) (vl w (i - 1)))⟩]:=by
       have:=ratSub_fn (vl w i) (vl w (i - 1)) (okO_vl _ _) (okO_vl _ _)
       rw [vk i (by omega),vk (i - 1) (by omega)] at this
       rw [e1]; exact this
      have c8:=size_fn (subO (vl w i) (vl w (i - 1)))
      have c9:=isGood_fn (sizeO (subO (vl w i) (vl w (i - 1))))
      have c10:Fn Tryz.prog 36 [⟨tRat,oD (sizeO (subO (vl w i) (vl w (i - 1))))⟩,⟨tRat,nth (t:=tRat) (gnL l a (l.length - 1)) ((i:Int) - 1).toNat⟩] false [⟨.int,cmpO (sizeO (subO (vl w i) (vl w (i - 1)))) (gn a (pn l (i - 1)) (pn l (i - 1+1)))⟩]:=by
       rw [e1,gnL_nth l a (k:=l.length - 1) (i:=i - 1) (by omega)]
       exact ratCmp_fn _ _ (okO_size (okO_sub _ _)) (okO_gn _ _ _)
      try simp (maxSteps:=9^9) only[go_sem]
      repeat refine And.intro (by first|omega|(constructor<;>omega)|kernel_rfl) ?_
      refine CallW.mk (c5) ?_
      try simp (maxSteps:=9^9) only[go_sem]
      try simp (maxSteps:=9^9) only[go_sem,s1,hsl]
      repeat refine And.intro (by first|omega|(constructor<;>omega)|kernel_rfl) ?_
      refine CallW.mk (c6) ?_
      try simp (maxSteps:=9^9) only[go_sem]
      try simp (maxSteps:=9^9) only[go_sem,s2]
      repeat refine And.intro (by first|omega|(constructor<;>omega)|kernel_rfl) ?_
      try simp (maxSteps:=9^9) only[go_sem,d3]
      repeat refine And.intro (by first|omega|(constructor<;>omega)|kernel_rfl) ?_
      refine CallW.mk (c7) ?_
      try simp (maxSteps:=9^9) only[go_sem]
      repeat refine And.intro (by first|omega|(constructor<;>omega)|kernel_rfl) ?_
      refine CallW.mk (c8) ?_
      try simp (maxSteps:=9^9) only[go_sem]
      repeat refine And.intro (by first|omega|(constructor<;>omega)|kernel_rfl) ?_
      cases s4:(sizeO (subO (vl w i) (vl w (i - 1)))).isSome<;>rw [s4] at c9
      ·rw [bdec_f (p:=∀ i,i < l.length->ipP l lims a w i) fun h=>by have:=((h i hlt).2.2 (by omega)).1; rw [s4] at this; cases this]
       try simp (maxSteps:=9^9) only[go_sem]
       repeat refine And.intro (by first|omega|(constructor<;>omega)|kernel_rfl) ?_
       refine CallW.mk (c9) ?_
       try simp (maxSteps:=9^9) only[go_sem]
       all_goals repeat refine And.intro (by first|omega|(constructor<;>omega)|kernel_rfl) ?_
       all_goals first|kernel_rfl|omega|rfl
      ·by_cases s5:0 < cmpO (sizeO (subO (vl w i) (vl w (i - 1)))) (gn a (pn l (i - 1)) (pn l (i - 1+1)))
       ·rw [bdec_f (p:=∀ i,i < l.length->ipP l lims a w i) fun h=>by have:=((h i hlt).2.2 (by omega)).2; omega]
        try simp (maxSteps:=9^9) only[go_sem]
        repeat refine And.intro (by first|omega|(constructor<;>omega)|kernel_rfl) ?_
        refine CallW.mk (c9) ?_
        try simp (maxSteps:=9^9) only[go_sem]
        try simp (maxSteps:=9^9) only[go_sem,hgl]
        repeat refine And.intro (by first|omega|(constructor<;>omega)|kernel_rfl) ?_
        refine CallW.mk (c10) ?_
        try simp (maxSteps:=9^9) only[go_sem]
        try simp (maxSteps:=9^9) only[go_sem,s5]
        all_goals repeat refine And.intro (by first|omega|(constructor<;>omega)|kernel_rfl) ?_
        all_goals first|kernel_rfl|omega|rfl
       ·try simp (maxSteps:=9^9) only[go_sem]
        repeat refine And.intro (by first|omega|(constructor<;>omega)|kernel_rfl) ?_
        refine CallW.mk (c9) ?_
        try simp (maxSteps:=9^9) only[go_sem]
        try simp (maxSteps:=9^9) only[go_sem,hgl]
        repeat refine And.intro (by first|omega|(constructor<;>omega)|kernel_rfl) ?_
        refine CallW.mk (c10) ?_
        try simp (maxSteps:=9^9) only[go_sem]
        try simp (maxSteps:=9^9) only[go_sem,s5]
        repeat refine And.intro (by first|omega|(constructor<;>omega)|kernel_rfl) ?_
        refine LoopK.mk (i+1) ?_ ⟨by omega,fun j hj=>?_⟩ (by omega)
        ·refine Wk.mk [] ?_
         try simp (maxSteps:=9^9) only[go_sem]
         try (and_intros<;>first|rfl|omega|exact ⟨_,rfl⟩)
        ·by_cases h:j < i
         ·exact hall2 j h
         ·rw [show j=i by omega]
          exact ⟨by omega,by omega,fun _=>⟨s4,by omega⟩⟩
  ·rw [bdec_t (p:=∀ i,i < l.length->ipP l lims a w i) fun j hj=>hall2 j (by omega)]
   try simp (maxSteps:=9^9) only[go_sem]
end Go.Proofs.YtaflkgjckmfkoaaGreat.DW

namespace Go.Proofs.YtaflkgjckmfkoaaGreat.DW
open Go.RowKit
theorem int_half (x:Int):(x:Rat)=((2 * x:Int):Rat) / 2:=by
 rw [Rat.intCast_mul,two_c]; grind
def HL (w:List DR) (z:Nat->Int):Prop:=∀ i,i < w.length->vl w i=some ((z i:Rat) / 2)
theorem HL_okR {w:List DR} {z:Nat->Int} (h:HL w z) {i:Nat} (hi:i < w.length):okR (nth (t:=tRat) w i)=true:=by
 have:=h i hi
 unfold vl at this
 unfold okR
 rw [this]; rfl
theorem HL_any {w:List DR} {z:Nat->Int} (h:HL w z):(w.any fun r=>!okR r)=false:=by
 rw [List.any_eq_false]
 intro r hr2
 obtain ⟨i,hi,rfl⟩:=List.getElem_of_mem hr2
 have:=HL_okR h hi
 rw [nth_lt hi] at this
 rw [this]; decide
theorem cmp_half {a b:Int}:cmpO (some ((a:Rat) / 2)) (some ((b:Rat) / 2))<=0 ↔ a<=b:=by
 show cmpQ _ _<=0 ↔ _
 rw [cmpQ_le,half_le]
theorem cmp_half_ge {a b:Int}:0<=cmpO (some ((a:Rat) / 2)) (some ((b:Rat) / 2)) ↔ b<=a:=by
 show 0<=cmpQ _ _ ↔ _
 rw [cmpQ_ge,half_le]
theorem sgn_half {a:Int}:0<=sgnO (some ((a:Rat) / 2)) ↔ 0<=a:=by
 show 0<=cmpQ _ 0 ↔ _
 rw [z_half,cmpQ_ge,half_le]
theorem fast_half {v w:List DR} {y z:Nat->Int} (hl:v.length=w.length) (hv:HL v y) (hw:HL w z) (h:∀ i,i < v.length->z i<=y i):fasterP v w:=by
 refine ⟨hl,HL_any hv,HL_any hw,fun i hi=>?_⟩
 have h1:=hv i hi
 have h2:=hw i (by omega)
 unfold vl at h1 h2
 rw [h1,h2,cmp_half_ge]
 exact h i hi
section
variable {vs:List (Int × Int)} {a:Int} {lims:List Int} {w:List DR} {z:Nat->Int}
theorem ip_half (hv:pthOk vs) (ha:1<=a/\a<=1000) (hl:spdOk vs.length lims) (hw:w.length=vs.length) (hz:HL w z)
  (h:∀ i,i < vs.length->0<=z i/\z i<=2 * lI vs.length lims i) {i:Nat} (hi:i < vs.length) :
  ipP (pth vs) lims a w i ↔ (0 < i->z i - z (i - 1)<=2 * gI vs a (i - 1)/\z (i - 1) - z i<=2 * gI vs a (i - 1)):=by
 have hpl:(pth vs).length=vs.length:=List.length_map ..
 obtain ⟨h0,h1⟩:=h i hi
 have hL:=lI_rng hl i
 unfold ipP
 rw [hz i (by omega),hpl,sgn_half,show limA vs.length lims i * limA vs.length lims i=lI vs.length lims i from rfl,int_half (lI vs.length lims i),cmp_half]
 constructor
 ·rintro ⟨_,_,h2⟩ hp
  obtain ⟨h3,h4⟩:=h (i - 1) (by omega)
  have hL2:=lI_rng hl (i - 1)
  have h5:=(h2 hp).2
  rw [hz (i - 1) (by omega),sub_fit (by rw [half_sub]; exact half_fit (by omega)),half_sub,size_half,gn_pth hv ha (by omega),int_half (gI vs a (i - 1)),cmp_half] at h5
  omega
 ·intro h2
  refine ⟨h0,h1,fun hp=>?_⟩
  obtain ⟨h3,h4⟩:=h (i - 1) (by omega)
  have hL2:=lI_rng hl (i - 1)
  have h5:=h2 hp
  rw [hz (i - 1) (by omega),sub_fit (by rw [half_sub]; exact half_fit (by omega)),half_sub,size_half,gn_pth hv ha (by omega),int_half (gI vs a (i - 1)),cmp_half]
  refine ⟨rfl,?_⟩
  omega
theorem prof_ip (hv:pthOk vs) (ha:1<=a/\a<=1000) (hl:spdOk vs.length lims) (hl6:vs.length<=16777216) (hw:w.length=vs.length) (hz:HL w z)
  (h:∀ i,i < vs.length->0<=z i/\z i<=2 * lI vs.length lims i) (hs:∀ i,i+1 < vs.length->z (i+1)<=z i+2 * gI vs a i/\z i<=z (i+1)+2 * gI vs a i) :
  Fn Tryz.prog 11 [⟨.slice tPoint,pth vs⟩,⟨tInts,lims⟩,⟨.int,a⟩,⟨.slice tRat,w⟩] false [⟨.bool,true⟩]:=by
 have hpl:(pth vs).length=vs.length:=List.length_map ..
 have:=IsProfile_fn (pth vs) lims a w (by rw [hpl]; exact hl) ha (by rw [hpl]; exact hw) (fun i hi=>HL_okR hz hi) (fun i hi=>by rw [gn_pth hv ha (by omega)]; rfl) (by omega)
 rw [bdec_t] at this
 ·exact this
 ·intro i hi
  rw [hpl] at hi
  refine (ip_half hv ha hl hw hz h hi).2 fun hp=>?_
  have:=hs (i - 1) (by omega)
  rw [show i - 1+1=i by omega] at this
  omega
theorem spf_HL (hv:pthOk vs) (ha:1<=a/\a<=1000) (hl:spdOk vs.length lims):(spf (pth vs) lims a).length=vs.length/\HL (spf (pth vs) lims a) fun i=>2 * pI (lI vs.length lims) (gI vs a) vs.length i:=by
 obtain ⟨h1,h2⟩:=spf_int (a:=a) (lims:=lims) hv ha hl
 exact ⟨h1,fun i hi=>by rw [h2 i (by omega)]; exact congrArg some (int_half _)⟩
noncomputable def hfL (w:List DR) (k:Nat):List DR:=(List.range k).map fun i=>oD (mulO (some (((1:Int):Rat) / ((2:Int):Rat))) (vl w i))
theorem hfL_len (w:List DR) (k:Nat):(hfL w k).length=k:=by simp [hfL]
theorem hfL_succ (w:List DR) (k:Nat):hfL w (k+1)=hfL w k++[oD (mulO (some (((1:Int):Rat) / ((2:Int):Rat))) (vl w k))]:=by simp [hfL,List.range_succ]
theorem one_half (x:Int):((1:Int):Rat) / ((2:Int):Rat) * (x:Rat)=(x:Rat) / 2:=by
 rw [two_c,one_c]; grind
theorem hfL_HL {p:Nat->Int} (hw:∀ i,i < w.length->vl w i=some (p i:Rat)) (hp:∀ i,i < w.length->(p i).natAbs < 1000000000):HL (hfL w w.length) p:=by
 intro i hi
 rw [hfL_len] at hi
 have e:nth (t:=tRat) (hfL w w.length) i=oD (mulO (some (((1:Int):Rat) / ((2:Int):Rat))) (vl w i)):=by
  rw [nth_lt (by rw [hfL_len]; exact hi)]; simp [hfL]
 unfold vl
 rw [e,hw i hi,mul_fit (by rw [one_half]; exact half_fit (hp i hi)),one_half,rdO_oD (ok_fit (half_fit (hp i hi)))]
end
def slL (l:List Int) (k:Nat):List Int:=(List.range k).map fun i=>1+ni l i / 2
theorem slL_len (l:List Int) (k:Nat):(slL l k).length=k:=by simp [slL]
theorem slL_succ (l:List Int) (k:Nat):slL l (k+1)=slL l k++[1+ni l k / 2]:=by simp [slL,List.range_succ]
theorem slL_at (l:List Int) {k i:Nat} (h:i < k):ni (slL l k) i=1+ni l i / 2:=by
 rw [ni_lt (by rw [slL_len]; exact h)]; simp [slL]
theorem slL_ok {n:Int} {l:List Int} (h:spdOk n l):spdOk n (slL l l.length):=by
 refine ⟨h.1,by rw [slL_len]; exact h.2.1,fun x hx=>?_⟩
 obtain ⟨i,hi,rfl⟩:=List.getElem_of_mem hx
 rw [slL_len] at hi
 have h1:=h.2.2 _ (List.getElem_mem hi)
 have h2:=slL_at l hi
 rw [ni_lt (by rw [slL_len]; exact hi),ni_lt hi] at h2
 rw [h2]; omega
theorem limA_sl {n:Int} {l:List Int} (h:spdOk n l) (i:Nat):0<=limA n (slL l l.length) i/\limA n (slL l l.length) i<=limA n l i:=by
 refine ⟨(limA_le (slL_ok h) i).1,?_⟩
 unfold limA
 split
 ·rename_i hc
  have h1:((i:Int) - 1).toNat < l.length:=by have:=h.2.1; omega
  have h2:i < l.length:=by have:=h.2.1; omega
  have e1:=h.2.2 _ (List.getElem_mem h1)
  have e2:=h.2.2 _ (List.getElem_mem h2)
  rw [slL_at l h1,slL_at l h2,ni_lt h1,ni_lt h2]
  omega
 ·exact Int.le_refl _
theorem lI_sl {n:Int} {l:List Int} (h:spdOk n l) (i:Nat):lI n (slL l l.length) i<=lI n l i:=by
 obtain ⟨h1,h2⟩:=limA_sl h i
 exact Int.mul_le_mul h2 h2 h1 (Int.le_trans h1 h2)
end Go.Proofs.YtaflkgjckmfkoaaGreat.DW

namespace Go.Proofs.YtaflkgjckmfkoaaGreat.DW
open Go.RowKit
set_option maxRecDepth 100000 in
set_option maxHeartbeats 8000000 in
theorem lawSpeed_fn (code:List Int):Fn Tryz.prog 3 [⟨.slice .u8,code⟩] false [⟨.bool,true⟩]:=by
 by_cases hc:code.length<=1048576
 rotate_left
 ·have d0:decide (((1048576:Int)) < (code.length:Int))=true:=decide_eq_true (by omega)
  refine fn_enter tabOK mixes Tryz.func3 rfl rfl _ Tryz.ntmps3 _ Tryz.results3 (by simp) fun hwf=>?_
  try simp (maxSteps:=9^9) only[go_sem,d0]
  all_goals repeat refine And.intro (by first|omega|(constructor<;>omega)|kernel_rfl) ?_
  all_goals first|kernel_rfl|omega|rfl
 have d0:decide (((1048576:Int)) < (code.length:Int))=false:=decide_eq_false (by omega)
 have hN:=mkN_rng hc
 have hv:pthOk (mkV code hc):=mpV_ok _ _
 have hvl:(mkV code hc).length=mkN code hc+1:=mpV_len _ _
 have hll:(mkL code hc).length=mkN code hc:=mpL_len _ _
 have hlo:spdOk (mkV code hc).length (mkL code hc):=⟨by omega,by omega,fun x hx=>by have:=mpL_ok (Cu.new code hc) _ x hx; omega⟩
 have cP:=MakePath_fn hc
 have cN:=MakeNum_fn hc 1 (by decide)
 have hm:=mkNum_rng hc 1
 have hq:0<=mkNum code hc 1 % 9/\mkNum code hc 1 % 9 < 9:=⟨Int.emod_nonneg _ (by decide),Int.emod_lt_of_pos _ (by decide)⟩
 generalize mkNum code hc 1=q at *
 generalize mkV code hc=vs at *
 generalize mkL code hc=lims at *
 generalize ha':1+q % 9=a at *
 have ha:1<=a/\a<=1000:=by omega
 have hpl:(pth vs).length=vs.length:=List.length_map ..
 have hG:=fun i=>gI_rng hv ha i
 have hL:=fun i=>lI_rng hlo i
 obtain ⟨l1,z1⟩:=spf_HL hv ha hlo
 obtain ⟨_,i1⟩:=spf_int (a:=a) hv ha hlo
 have hsl:=slL_ok hlo
 obtain ⟨l3,z3⟩:=spf_HL hv ha hsl
 obtain ⟨l4,z4⟩:=spf_HL (a:=1) hv (by decide) hlo
 have b1:∀ i,i < vs.length->0<=pI (lI vs.length lims) (gI vs a) vs.length i/\pI (lI vs.length lims) (gI vs a) vs.length i<=lI vs.length lims i:=fun i hi=>⟨pI_nn (fun i=>(hL i).1) (fun i=>(hG i).1) i,pI_le hi⟩
 have b3:∀ i,i < vs.length->0<=pI (lI vs.length (slL lims lims.length)) (gI vs a) vs.length i/\pI (lI vs.length (slL lims lims.length)) (gI vs a) vs.length i<=lI vs.length lims i:=fun i hi=>⟨pI_nn (fun i=>(lI_rng hsl i).1) (fun i=>(hG i).1) i,Int.le_trans (pI_le hi) (lI_sl hlo i)⟩
 have g1:∀ i,gI vs 1 i<=gI vs a i:=fun i=>by
  unfold gI
  split
  ·rename_i hi
   exact Int.mul_le_mul_of_nonneg_right ha.1 (mI_rng (pthOk_at hv (i:=i) (by omega)) (pthOk_at hv hi)).1
  ·exact Int.le_refl _
 have b4:∀ i,i < vs.length->0<=pI (lI vs.length lims) (gI vs 1) vs.length i/\pI (lI vs.length lims) (gI vs 1) vs.length i<=lI vs.length lims i:=fun i hi=>⟨pI_nn (fun i=>(hL i).1) (fun i=>(gI_rng hv (by decide) i).1) i,pI_le hi⟩
 have c1:=implSpeedProfile_fn (pth vs) lims a (by omega) (by omega)
 have c3:=implSpeedProfile_fn (pth vs) (slL lims lims.length) a (by omega) (by rw [slL_len]; omega)
 have c4:=implSpeedProfile_fn (pth vs) lims 1 (by omega) (by omega)
 have p1:=prof_ip hv ha hlo (by omega) l1 z1 (fun i hi=>by have:=b1 i hi; omega) (fun i hi=>by have h1:=pI_up (L:=lI vs.length lims) (fun i=>(hG i).1) hi; have h2:=pI_down (L:=lI vs.length lims) (G:=gI vs a) hi; omega)
 have z2:=hfL_HL (w:=spf (pth vs) lims a) (p:=pI (lI vs.length lims) (gI vs a) vs.length) (fun i hi=>i1 i (by omega)) (fun i hi=>by have h1:=b1 i (by omega); have h2:=hL i; omega)
 have l2:=hfL_len (spf (pth vs) lims a) (spf (pth vs) lims a).length
 have p2:=prof_ip hv ha hlo (by omega) (by omega) z2 (fun i hi=>by have:=b1 i hi; omega) (fun i hi=>by have h1:=pI_up (L:=lI vs.length lims) (fun i=>(hG i).1) hi; have h2:=pI_down (L:=lI vs.length lims) (G:=gI vs a) hi; have:=hG i; omega)
 have p3:=prof_ip hv ha hlo (by omega) l3 z3 (fun i hi=>by have:=b3 i hi; omega) (fun i hi=>by have h1:=pI_up (L:=lI vs.length (slL lims lims.length)) (fun i=>(hG i).1) hi; have h2:=pI_down (L:=lI vs.length (slL lims lims.length)) (G:=gI vs a) hi; omega)
 have p4:=prof_ip hv ha hlo (by omega) l4 z4 (fun i hi=>by have:=b4 i hi; omega) (fun i hi=>by have h1:=pI_up (L:=lI vs.length lims) (fun i=>(gI_rng hv (a:=1) (by decide) i).1) hi; have h2:=pI_down (L:=lI vs.length lims) (G:=gI vs 1) hi; have:=g1 i; omega)
 have f2:=implFaster_fn (spf (pth vs) lims a) (hfL (spf (pth vs) lims a) (spf (pth vs) lims a).length)
 rw [bdec_t (fast_half (by omega) z1 z2 fun i hi=>by have:=b1 i (by omega); omega)] at f2
 have f3:=implFaster_fn (spf (pth vs) lims a) (spf (pth vs) (slL lims lims.length) a)
 rw [bdec_t (fast_half (by omega) z1 z3 fun i hi=>by have:=pI_mono (n:=vs.length) (fun i=>lI_sl hlo i) (fun i=>Int.le_refl (gI vs a i)) i; omega)] at f3
 have f4:=implFaster_fn (spf (pth vs) lims a) (spf (pth vs) lims 1)
 rw [bdec_t (fast_half (by omega) z1 z4 fun i hi=>by have:=pI_mono (n:=vs.length) (fun i=>Int.le_refl (lI vs.length lims i)) g1 i; omega)] at f4
 have vk:∀ i,i < vs.length->oD (vl (spf (pth vs) lims a) i)=nth (t:=tRat) (spf (pth vs) lims a) i:=fun i hi=>okR_oD (HL_okR z1 (by omega))
 have okv':∀ i,okO (vl (spf (pth vs) lims a) i):=fun i=>okO_rdO _
 generalize spf (pth vs) lims a=W at *
 generalize spf (pth vs) (slL lims lims.length) a=X at *
 generalize spf (pth vs) lims 1=Y at *
 have hh:fit (((1:Int):Rat) / ((2:Int):Rat)):=fit_div (by decide) (by decide)
 have cr:=RatOfI_fn 1 2 (by decide) (by decide)
 rw [cap_fit hh] at cr
 clear z1 z2 z3 z4 i1
 refine fn_enter tabOK mixes Tryz.func3 rfl rfl _ Tryz.ntmps3 _ Tryz.results3 (by simp) fun hwf=>?_
 try simp (maxSteps:=9^9) only[go_sem,d0]
 repeat refine And.intro (by first|omega|(constructor<;>omega)|kernel_rfl) ?_
 refine CallW.mk (cP) ?_
 try simp (maxSteps:=9^9) only[go_sem]
 repeat refine And.intro (by first|omega|(constructor<;>omega)|kernel_rfl) ?_
 refine CallW.mk (cN) ?_
 try simp (maxSteps:=9^9) only[go_sem]
 refine RemW.pos (by omega) (by omega) ?_
 try simp (maxSteps:=9^9) only[go_sem,ha']
 repeat refine And.intro (by first|omega|(constructor<;>omega)|kernel_rfl) ?_
 refine CallW.mk (c1) ?_
 try simp (maxSteps:=9^9) only[go_sem]
 refine LoopG.intro _ _ _ (fun k:Nat=>⟨[(3,.sl tPoint (pth vs)),(4,.sl .int lims),(5,.sc (.int .i64 a)),(6,.row 0 0),(7,.row 1 0),(32,.row 0 0),(33,.sc (.int .i64 W.length)),(34,.sc (.int .i64 k))],[(0,.odat tRat W),(1,.row 33 tRat 0 true (hfL W k))]⟩) (fun k=>k<=W.length) (fun k=>W.length - k) 0 ?_ (Nat.zero_le _) ?_
 ·refine Wk.mk [] ?_
  try simp (maxSteps:=9^9) only[go_sem]
  try (and_intros<;>first|rfl|omega|exact ⟨_,rfl⟩)
 ·rintro k hk
  have hkl:=hfL_len W k
  try simp (maxSteps:=9^9) only[go_sem]
  refine CondW_dec (fun hA=>?_) (fun hA=>?_)
  ·have cm:=RatMulI_fn (some (((1:Int):Rat) / ((2:Int):Rat))) (vl W k) (ok_fit hh) (okv' k)
   rw [vk k (by omega)] at cm
   try simp (maxSteps:=9^9) only[go_sem]
   repeat refine And.intro (by first|omega|(constructor<;>omega)|kernel_rfl) ?_
   refine CallW.mk (cr) ?_
   try simp (maxSteps:=9^9) only[go_sem]
   repeat refine And.intro (by first|omega|(constructor<;>omega)|kernel_rfl) ?_
   refine CallW.mk (cm) ?_
   try simp (maxSteps:=9^9) only[go_sem]
   try simp (maxSteps:=9^9) only[go_sem,hkl]
   repeat refine And.intro (by first|omega|(constructor<;>omega)|kernel_rfl) ?_
   refine LoopK.mk (k+1) ?_ (by omega) (by omega)
   rw [hfL_succ]
   refine Wk.mk [] ?_
   try simp (maxSteps:=9^9) only[go_sem]
   try (and_intros<;>first|rfl|omega|exact ⟨_,rfl⟩)
  ·have ek:k=W.length:=by omega
   subst ek
   try simp (maxSteps:=9^9) only[go_sem]
   refine LoopG.intro _ _ _ (fun k:Nat=>⟨[(3,.sl tPoint (pth vs)),(4,.sl .int lims),(5,.sc (.int .i64 a)),(6,.row 0 0),(7,.row 1 0),(10,.row 2 0),(46,.sl .int lims),(47,.sc (.int .i64 lims.length)),(48,.sc (.int .i64 k))],[(0,.odat tRat W),(1,.row 33 tRat 0 true (hfL W W.length)),(2,.row 3 .int 0 true (slL lims k))]⟩) (fun k=>k<=lims.length) (fun k=>lims.length - k) 0 ?_ (Nat.zero_le _) ?_
   ·refine Wk.mk [] ?_
    try simp (maxSteps:=9^9) only[go_sem]
    try (and_intros<;>first|rfl|omega|exact ⟨_,rfl⟩)
   ·rintro k hk
    have hkl:=slL_len lims k
    try simp (maxSteps:=9^9) only[go_sem]
    refine CondW_dec (fun hA=>?_) (fun hA=>?_)
    ·have hx:=hlo.2.2 _ (List.getElem_mem (show k < lims.length by omega))
     rw [<-ni_lt] at hx
     try simp (maxSteps:=9^9) only[go_sem]
     repeat refine And.intro (by first|omega|(constructor<;>omega)|kernel_rfl) ?_
     refine QuoW.pos (by omega) (by omega) ?_
     try simp (maxSteps:=9^9) only[go_sem,hkl]
     repeat refine And.intro (by first|omega|(constructor<;>omega)|kernel_rfl) ?_
     refine LoopK.mk (k+1) ?_ (by omega) (by omega)
     rw [slL_succ]
     refine Wk.mk [] ?_
     try simp (maxSteps:=9^9) only[go_sem]
     try (and_intros<;>first|rfl|omega|exact ⟨_,rfl⟩)
    ·have ek:k=lims.length:=by omega
     subst ek
     try simp (maxSteps:=9^9) only[go_sem]
     repeat refine And.intro (by first|omega|(constructor<;>omega)|kernel_rfl) ?_
     refine CallW.mk (c3) ?_
     try simp (maxSteps:=9^9) only[go_sem]
     repeat refine And.intro (by first|omega|(constructor<;>omega)|kernel_rfl) ?_
     refine CallW.mk (c4) ?_
     try simp (maxSteps:=9^9) only[go_sem]
     have dE:decide ((W.length:Int)=((pth vs).length:Int))=true:=decide_eq_true (by omega)
     try simp (maxSteps:=9^9) only[go_sem,dE]
     repeat refine And.intro (by first|omega|(constructor<;>omega)|kernel_rfl) ?_
     refine CallW.mk (p1) ?_
     try simp (maxSteps:=9^9) only[go_sem]
     repeat refine And.intro (by first|omega|(constructor<;>omega)|kernel_rfl) ?_
     refine CallW.mk (p2) ?_
     try simp (maxSteps:=9^9) only[go_sem]
     repeat refine And.intro (by first|omega|(constructor<;>omega)|kernel_rfl) ?_
     refine CallW.mk (p3) ?_
     try simp (maxSteps:=9^9) only[go_sem]
     repeat refine And.intro (by first|omega|(constructor<;>omega)|kernel_rfl) ?_
     refine CallW.mk (p4) ?_
     try simp (maxSteps:=9^9) only[go_sem]
     repeat refine And.intro (by first|omega|(constructor<;>omega)|kernel_rfl) ?_
     refine CallW.mk (f2) ?_
     try simp (maxSteps:=9^9) only[go_sem]
     repeat refine And.intro (by first|omega|(constructor<;>omega)|kernel_rfl) ?_
     refine CallW.mk (f3) ?_
     try simp (maxSteps:=9^9) only[go_sem]
     repeat refine And.intro (by first|omega|(constructor<;>omega)|kernel_rfl) ?_
     refine CallW.mk (f4) ?_
     try simp (maxSteps:=9^9) only[go_sem]
     all_goals repeat refine And.intro (by first|omega|(constructor<;>omega)|kernel_rfl) ?_
     all_goals first|kernel_rfl|omega|rfl
end Go.Proofs.YtaflkgjckmfkoaaGreat.DW

namespace Go.Proofs.YtaflkgjckmfkoaaGreat.DW
open Go.RowKit
noncomputable def moreD (W:List DR) (k:Nat) (q:Int):List DR:=W.set k (oD (addO (vl W k) (some (((1:Int):Rat) / (q:Rat)))))
theorem frac_add (p q:Int) (hq:q ≠ 0):(p:Rat)+((1:Int):Rat) / (q:Rat)=((p * q+1:Int):Rat) / (q:Rat):=by
 have h:(q:Rat) ≠ 0:=fun h=>hq (by exact_mod_cast h)
 rw [Rat.intCast_add,Rat.intCast_mul]
 grind
theorem frac_gt {p q:Int} (hq:1<=q):(p:Rat) < ((p * q+1:Int):Rat) / (q:Rat):=by
 have h:(0:Rat) < (q:Rat):=Rat.intCast_pos.2 (by omega)
 rw [Rat.lt_div_iff h,<-Rat.intCast_mul]
 exact Rat.intCast_lt_intCast.2 (by omega)
theorem peak_nn {p:Nat->Int}:∀ {w:List DR},(∀ r ∈ w,∃ z:Int,0<=z/\rdO r=some (z:Rat))->0<=sgnO (peakO w)
 | [],_=>by decide
 | r :: l,h=>by
  have key:∀ {m:List DR} {b:Option Rat},(∃ z:Int,0<=z/\b=some (z:Rat))->(∀ r ∈ m,∃ z:Int,0<=z/\rdO r=some (z:Rat))->∃ z:Int,0<=z/\foldM b m=some (z:Rat):=by
   intro m
   induction m with
   | nil=>intro b hb _; exact hb
   | cons x m ih =>
    intro b hb hm
    refine ih ?_ fun r hr=>hm r (List.mem_cons_of_mem _ hr)
    obtain ⟨z,hz,e⟩:=hb
    obtain ⟨y,hy,e2⟩:=hm x List.mem_cons_self
    show ∃ z':Int,0<=z'/\maxO b (rdO x)=some (z':Rat)
    rw [e,e2]
    show ∃ z':Int,0<=z'/\(if 0<=cmpQ (z:Rat) (y:Rat) then some (z:Rat) else some (y:Rat))=some (z':Rat)
    split
    ·exact ⟨z,hz,rfl⟩
    ·exact ⟨y,hy,rfl⟩
  obtain ⟨z,hz,e⟩:=key (m:=r :: l) (b:=rdO r) (h r List.mem_cons_self) h
  have e2:peakO (r :: l)=foldM (rdO r) (r :: l):=rfl
  rw [e2,e]
  show 0<=cmpQ (z:Rat) 0
  rw [cmpQ_ge]
  exact Rat.intCast_nonneg.2 hz
theorem frac_sub (p j q:Int) (hq:q ≠ 0):((p * q+1:Int):Rat) / (q:Rat) - (j:Rat)=(((p - j) * q+1:Int):Rat) / (q:Rat):=by
 have h:(q:Rat) ≠ 0:=fun h=>hq (by exact_mod_cast h)
 rw [Rat.intCast_add,Rat.intCast_mul,Rat.intCast_add,Rat.intCast_mul,Rat.intCast_sub]
 grind
theorem frac_sub' (p j q:Int) (hq:q ≠ 0):(j:Rat) - ((p * q+1:Int):Rat) / (q:Rat)=-((((p - j) * q+1:Int):Rat) / (q:Rat)):=by
 rw [<-frac_sub p j q hq]; grind
theorem frac_pos {z q:Int} (hz:0 < z) (hq:1<=q):(0:Rat) < (z:Rat) / (q:Rat):=by
 have h:(0:Rat) < (q:Rat):=Rat.intCast_pos.2 (by omega)
 rw [Rat.lt_div_iff h,Rat.zero_mul]
 exact Rat.intCast_pos.2 hz
theorem size_pos {x:Rat} (h:0 < x):sizeO (some x)=some x:=by
 unfold sizeO
 rw [if_neg]
 show ¬ cmpQ x 0 < 0
 have:=cmpQ_ge.2 (Rat.le_of_lt h)
 omega
theorem size_neg {x:Rat} (h:0 < x):sizeO (some (-x))=some x:=by
 unfold sizeO
 have h1:-x < 0:=by grind
 rw [if_pos]
 ·show some (- -x)=_
  rw [Rat.neg_neg]
 ·show (if -x < 0 then (-1:Int) else if 0 < -x then 1 else 0) < 0
  rw [if_pos h1]; decide
theorem fit_neg {x:Rat} (h:fit x):fit (-x):=by
 unfold fit at *
 rw [Rat.neg_num,Rat.neg_den,Int.natAbs_neg]; exact h
section
variable {vs:List (Int × Int)} {a:Int} {lims:List Int}
theorem more_no (hv:pthOk vs) (ha:1<=a/\a<=1000) (hl:spdOk vs.length lims) {w:List DR} {k:Nat} {q:Int} (hq:1<=q/\q<=100) (hk:k < vs.length) (hw:w.length=vs.length)
  (hp:∀ i,i < vs.length->vl w i=some (pI (lI vs.length lims) (gI vs a) vs.length i:Rat)) :
  (∀ i,i < (moreD w k q).length->okR (nth (t:=tRat) (moreD w k q) i)=true)/\¬ ∀ i,i < (pth vs).length->ipP (pth vs) lims a (moreD w k q) i:=by
 have hpl:(pth vs).length=vs.length:=List.length_map ..
 have hL:=fun i=>lI_rng hl i
 have hG:=fun i=>gI_rng hv ha i
 have b1:∀ i,i < vs.length->0<=pI (lI vs.length lims) (gI vs a) vs.length i/\pI (lI vs.length lims) (gI vs a) vs.length i<=lI vs.length lims i:=fun i hi=>⟨pI_nn (fun i=>(hL i).1) (fun i=>(hG i).1) i,pI_le hi⟩
 have ht:=pI_tight (L:=lI vs.length lims) (fun i=>(hG i).1) hk
 generalize pI (lI vs.length lims) (gI vs a) vs.length=p at *
 have hq0:q ≠ 0:=by omega
 have bq:∀ {x:Int},-1000000<=x->x<=1000000->(x * q+1).natAbs < 1000000000:=fun {x} h1 h2=>by
  have h3:=Int.mul_le_mul_of_nonneg_right h2 (show 0<=q by omega)
  have h4:=Int.mul_le_mul_of_nonneg_right h1 (show 0<=q by omega)
  omega
 have hk1:=b1 k hk
 have hk2:=hL k
 have f1:fit (((p k * q+1:Int):Rat) / (q:Rat)):=fit_div (bq (by omega) (by omega)) (by omega)
 have em:addO (vl w k) (some (((1:Int):Rat) / (q:Rat)))=some (((p k * q+1:Int):Rat) / (q:Rat)):=by
  rw [hp k hk,add_fit (by rw [frac_add _ _ hq0]; exact f1),frac_add _ _ hq0]
 have vm:∀ i,vl (moreD w k q) i=if i=k then some (((p k * q+1:Int):Rat) / (q:Rat)) else vl w i:=fun i=>by
  unfold moreD
  rw [em]
  unfold vl
  rw [nth_set (by omega)]
  split
  ·exact rd_fit f1
  ·rfl
 have hml:(moreD w k q).length=vs.length:=by unfold moreD; rw [List.length_set]; exact hw
 refine ⟨fun i hi=>?_,fun h=>?_⟩
 ·have h2:=vm i
  unfold vl at h2
  unfold okR
  rw [h2]
  split
  ·rfl
  ·have:=hp i (by omega)
   unfold vl at this
   rw [this]; rfl
 ·rcases ht with h1|⟨j,rfl,h1⟩|⟨h0,h1⟩
  ·have h2:=(h k (by omega)).2.1
   rw [vm k,if_pos rfl,hpl,show limA vs.length lims k * limA vs.length lims k=lI vs.length lims k from rfl,<-h1] at h2
   exact absurd (cmpQ_le.1 h2) (Rat.not_le.2 (frac_gt (by omega)))
  ·have h2:=((h (j+1) (by omega)).2.2 (by omega)).2
   have hj:=b1 j (by omega)
   have hj2:=hL j
   have hg:=hG j
   have f2:fit ((((p (j+1) - p j) * q+1:Int):Rat) / (q:Rat)):=fit_div (bq (by omega) (by omega)) (by omega)
   rw [show j+1 - 1=j by omega,vm (j+1),if_pos rfl,vm j,if_neg (by omega),hp j (by omega),sub_fit (by rw [frac_sub _ _ _ hq0]; exact f2),frac_sub _ _ _ hq0,gn_pth hv ha hk,show p (j+1) - p j=gI vs a j by omega] at h2
   have hz:0 < gI vs a j * q+1:=by have:=Int.mul_nonneg hg.1 (show 0<=q by omega); omega
   rw [size_pos (frac_pos hz (by omega))] at h2
   exact absurd (cmpQ_le.1 h2) (Rat.not_le.2 (frac_gt (by omega)))
  ·have h2:=((h (k+1) (by omega)).2.2 (by omega)).2
   have hj:=b1 (k+1) h0
   have hj2:=hL (k+1)
   have hg:=hG k
   have f2:fit ((((p k - p (k+1)) * q+1:Int):Rat) / (q:Rat)):=fit_div (bq (by omega) (by omega)) (by omega)
   rw [show k+1 - 1=k by omega,vm k,if_pos rfl,vm (k+1),if_neg (by omega),hp (k+1) h0,sub_fit (by rw [frac_sub' _ _ _ hq0]; exact fit_neg f2),frac_sub' _ _ _ hq0,gn_pth hv ha h0,show p k - p (k+1)=gI vs a k by omega] at h2
   have hz:0 < gI vs a k * q+1:=by have:=Int.mul_nonneg hg.1 (show 0<=q by omega); omega
   rw [size_neg (frac_pos hz (by omega))] at h2
   exact absurd (cmpQ_le.1 h2) (Rat.not_le.2 (frac_gt (by omega)))
end
set_option maxRecDepth 100000 in
set_option maxHeartbeats 8000000 in
theorem lawFastest_fn (code:List Int):Fn Tryz.prog 4 [⟨.slice .u8,code⟩] false [⟨.bool,true⟩]:=by
 by_cases hc:code.length<=1048576
 rotate_left
 ·have d0:decide (((1048576:Int)) < (code.length:Int))=true:=decide_eq_true (by omega)
  refine fn_enter tabOK mixes Tryz.func4 rfl rfl _ Tryz.ntmps4 _ Tryz.results4 (by simp) fun hwf=>?_
  try simp (maxSteps:=9^9) only[go_sem,d0]
  all_goals repeat refine And.intro (by first|omega|(constructor<;>omega)|kernel_rfl) ?_
  all_goals first|kernel_rfl|omega|rfl
 have d0:decide (((1048576:Int)) < (code.length:Int))=false:=decide_eq_false (by omega)
 have hN:=mkN_rng hc
 have hv:pthOk (mkV code hc):=mpV_ok _ _
 have hvl:(mkV code hc).length=mkN code hc+1:=mpV_len _ _
 have hll:(mkL code hc).length=mkN code hc:=mpL_len _ _
 have hlo:spdOk (mkV code hc).length (mkL code hc):=⟨by omega,by omega,fun x hx=>by have:=mpL_ok (Cu.new code hc) _ x hx; omega⟩
 have cP:=MakePath_fn hc
 have cN:=MakeNum_fn hc 1 (by decide)
 have cN2:=MakeNum_fn hc 2 (by decide)
 have cN3:=MakeNum_fn hc 3 (by decide)
 have hm:=mkNum_rng hc 1
 have hm2:=mkNum_rng hc 2
 have hm3:=mkNum_rng hc 3
 have hq:0<=mkNum code hc 1 % 9/\mkNum code hc 1 % 9 < 9:=⟨Int.emod_nonneg _ (by decide),Int.emod_lt_of_pos _ (by decide)⟩
 have hq3:0<=mkNum code hc 3 % 50/\mkNum code hc 3 % 50 < 50:=⟨Int.emod_nonneg _ (by decide),Int.emod_lt_of_pos _ (by decide)⟩
 generalize mkNum code hc 1=q at *
 generalize mkNum code hc 2=q2 at *
 generalize mkNum code hc 3=q3 at *
 generalize mkV code hc=vs at *
 generalize mkL code hc=lims at *
 generalize ha':1+q % 9=a at *
 generalize hb':1+q3 % 50=b at *
 have ha:1<=a/\a<=1000:=by omega
 have hb:1<=b/\b<=100:=by omega
 have hpl:(pth vs).length=vs.length:=List.length_map ..
 have hG:=fun i=>gI_rng hv ha i
 have hL:=fun i=>lI_rng hlo i
 obtain ⟨l1,z1⟩:=spf_HL hv ha hlo
 obtain ⟨_,i1⟩:=spf_int (a:=a) hv ha hlo
 have b1:∀ i,i < vs.length->0<=pI (lI vs.length lims) (gI vs a) vs.length i/\pI (lI vs.length lims) (gI vs a) vs.length i<=lI vs.length lims i:=fun i hi=>⟨pI_nn (fun i=>(hL i).1) (fun i=>(hG i).1) i,pI_le hi⟩
 have c1:=implSpeedProfile_fn (pth vs) lims a (by omega) (by omega)
 have p1:=prof_ip hv ha hlo (by omega) l1 z1 (fun i hi=>by have:=b1 i hi; omega) (fun i hi=>by have h1:=pI_up (L:=lI vs.length lims) (fun i=>(hG i).1) hi; have h2:=pI_down (L:=lI vs.length lims) (G:=gI vs a) hi; omega)
 have vk:∀ i,i < vs.length->oD (vl (spf (pth vs) lims a) i)=nth (t:=tRat) (spf (pth vs) lims a) i:=fun i hi=>okR_oD (HL_okR z1 (by omega))
 have hr:0<=q2 % (spf (pth vs) lims a).length/\q2 % (spf (pth vs) lims a).length < (spf (pth vs) lims a).length:=⟨Int.emod_nonneg _ (by omega),Int.emod_lt_of_pos _ (by omega)⟩
 generalize spf (pth vs) lims a=W at *
 generalize hk':q2 % (W.length:Int)=k at *
 obtain ⟨m1,m2⟩:=more_no hv ha hlo hb (k:=k.toNat) (by omega) l1 i1
 have hml:(moreD W k.toNat b).length=vs.length:=by unfold moreD; rw [List.length_set]; exact l1
 have p2:=IsProfile_fn (pth vs) lims a (moreD W k.toNat b) (by rw [hpl]; exact hlo) ha (by omega) m1 (fun i hi=>by rw [gn_pth hv ha (by omega)]; rfl) (by omega)
 rw [bdec_f m2] at p2
 have cr:=RatOfI_fn 1 b (by decide) (by omega)
 have fb:fit (((1:Int):Rat) / (b:Rat)):=fit_div (by decide) (by omega)
 rw [cap_fit fb] at cr
 have ca:=RatAddI_fn (vl W k.toNat) (some (((1:Int):Rat) / (b:Rat))) (okO_vl _ _) (ok_fit fb)
 rw [vk k.toNat (by omega)] at ca
 have cp:=implPeak_fn W
 have hpk:0<=sgnO (peakO W):=peak_nn (p:=fun _=>0) (w:=W) fun r hr=>by
  obtain ⟨i,hi,rfl⟩:=List.getElem_of_mem hr
  have:=i1 i (by omega)
  unfold vl at this
  rw [nth_lt hi] at this
  exact ⟨_,(b1 i (by omega)).1,this⟩
 have okp:okO (peakO W):=by
  have:∀ {w:List DR},okO (peakO w):=fun {w}=>by cases w with
   | nil=>exact okO_none
   | cons r l=>exact okO_fold _ (okO_rdO r)
  exact this
 have cs:=RatSignI_fn (peakO W) okp
 have cz:=RatSignI_fn (vl W 0) (okO_vl _ _)
 have hz0:vl W 0=some ((0:Int):Rat):=by
  have h0:=i1 0 (by omega)
  have h1:=b1 0 (by omega)
  have h2:lI vs.length lims 0=0:=by unfold lI limA; rw [if_neg (by omega)]; rfl
  rw [h0,show pI (lI vs.length lims) (gI vs a) vs.length 0=0 by omega]
 have hs0:sgnO (vl W 0)=0:=by rw [hz0]; decide
 rw [hs0,vk 0 (by omega)] at cz
 clear z1 i1
 refine fn_enter tabOK mixes Tryz.func4 rfl rfl _ Tryz.ntmps4 _ Tryz.results4 (by simp) fun hwf=>?_
 try simp (maxSteps:=9^9) only[go_sem,d0]
 repeat refine And.intro (by first|omega|(constructor<;>omega)|kernel_rfl) ?_
 refine CallW.mk (cP) ?_
 try simp (maxSteps:=9^9) only[go_sem]
 repeat refine And.intro (by first|omega|(constructor<;>omega)|kernel_rfl) ?_
 refine CallW.mk (cN) ?_
 try simp (maxSteps:=9^9) only[go_sem]
 refine RemW.pos (by omega) (by omega) ?_
 try simp (maxSteps:=9^9) only[go_sem,ha']
 repeat refine And.intro (by first|omega|(constructor<;>omega)|kernel_rfl) ?_
 refine CallW.mk (c1) ?_
 try simp (maxSteps:=9^9) only[go_sem]
 have dE:decide ((W.length:Int)=((pth vs).length:Int))=true:=decide_eq_true (by omega)
 try simp (maxSteps:=9^9) only[go_sem,dE]
 repeat refine And.intro (by first|omega|(constructor<;>omega)|kernel_rfl) ?_
 refine CallW.mk (p1) ?_
 try simp (maxSteps:=9^9) only[go_sem]
 repeat refine And.intro (by first|omega|(constructor<;>omega)|kernel_rfl) ?_
 refine CallW.mk (cN2) ?_
 try simp (maxSteps:=9^9) only[go_sem]
 refine RemW.pos (by omega) (by omega) ?_
 try simp (maxSteps:=9^9) only[go_sem,hk']
 repeat refine And.intro (by first|omega|(constructor<;>omega)|kernel_rfl) ?_
 refine CallW.mk (cN3) ?_
 try simp (maxSteps:=9^9) only[go_sem]
 refine RemW.pos (by omega) (by omega) ?_
 try simp (maxSteps:=9^9) only[go_sem,hb']
 repeat refine And.intro (by first|omega|(constructor<;>omega)|kernel_rfl) ?_
 refine CallW.mk (cr) ?_
 try simp (maxSteps:=9^9) only[go_sem]
 repeat refine And.intro (by first|omega|(constructor<;>omega)|kernel_rfl) ?_
 refine CallW.mk (ca) ?_
 try simp (maxSteps:=9^9) only[go_sem]
 repeat refine And.intro (by first|omega|(constructor<;>omega)|kernel_rfl) ?_
 refine CallW.mk (p2) ?_
 try simp (maxSteps:=9^9) only[go_sem]
 repeat refine And.intro (by first|omega|(constructor<;>omega)|kernel_rfl) ?_
 refine CallW.mk (cp) ?_
 try simp (maxSteps:=9^9) only[go_sem]
 repeat refine And.intro (by first|omega|(constructor<;>omega)|kernel_rfl) ?_
 refine CallW.mk (cs) ?_
 try simp (maxSteps:=9^9) only[go_sem]
 repeat refine And.intro (by first|omega|(constructor<;>omega)|kernel_rfl) ?_
 have dG:decide (0<=sgnO (peakO W))=true:=decide_eq_true hpk
 try simp (maxSteps:=9^9) only[go_sem,dG]
 repeat refine And.intro (by first|omega|(constructor<;>omega)|kernel_rfl) ?_
 refine CallW.mk (cz) ?_
 try simp (maxSteps:=9^9) only[go_sem]
 all_goals repeat refine And.intro (by first|omega|(constructor<;>omega)|kernel_rfl) ?_
 all_goals first|kernel_rfl|omega|rfl
end Go.Proofs.YtaflkgjckmfkoaaGreat.DW
