/-
  Texts of a proof, one behind another: Dw11, Dw12, Dw13, Dw16, Dw18, Dw21, Dw23, Dw24, Hl1, Dw40, DwV, Dw42, Dw43, Rw1, So0, So1, Cp1, Cp2, Dw44, Dw14, Dw15, Cn, CnO, Dw22, Dw17, Dw28, LwA, Ints, Own, Copy, PtOr, Dw19, Dw41, Hv1, Hv2, Hv3, ArIn, Dw25, Dw45, Dw62.
-/
import Derived.Shelf.GgSortFunc.InsertionK
import Derived.Shelf.SlSortCmp.NoneTotal
import Derived.Lib.SlicesCompact
import Derived.Shelf.RegionOpenPlain
import Derived.WalkKit
import Derived.Deep.LoopGhost
import Derived.Deep.Draws
import Derived.Lib.Walk
import Derived.Sort.WalkB12
import Derived.Lib.SliceRun
import Derived.Deep.AppendLies
import Derived.Test.YtbopoblkoainjaaGreatProg
import Derived.Deep.RegionHeld3
import Derived.Deep.RegionLaw
import Derived.Test.YtbopoblkoainjaaGreatKKCl3
set_option linter.all false
set_option maxRecDepth 100000
namespace Go.Proofs.YtbopoblkoainjaaGreat.DW
open Go.RowKit
theorem capR_data {q:Rat} (h:small q):oD (capR q)=((decide (q.num < 0),natL q.num.natAbs),natL q.den):=by rw [capR_s h]; rfl
theorem capR_none {q:Rat} (h:¬ small q):oD (capR q)=((false,[]),[]):=by rw [capR_n h]; rfl
theorem bigMulN_fn (x:Int) (n:Nat) (hx:nl x.natAbs<=10000) (hy:nl n<=10000):Fn Tryz.prog 62 [⟨tBig,bigD x⟩,⟨tBig,(false,natL n)⟩] false [⟨tBig,bigD (x * n)⟩]:=by
 have:=bigMul_fn x n hx (by simpa using hy)
 rw [bigD_nat] at this
 exact this
theorem ratMake_end (z:Int) (n:Nat) (hn:n ≠ 0) (hz:nl z.natAbs<=10000) (hnl:nl n<=10000):Fn Tryz.prog 106 [⟨tBig,bigD z⟩,⟨tInts,natL n⟩] true [⟨tRat,oD (capR (_root_.mkRat z n))⟩]:=by
 obtain ⟨m1,m2,m3⟩:=mk_abs (z:=z) hn
 generalize hq:_root_.mkRat z n=q at *
 have hg0:0 < Nat.gcd z.natAbs n:=Nat.gcd_pos_of_pos_right _ (Nat.pos_of_ne_zero hn)
 have hl1:=nl_mono (Nat.div_le_self z.natAbs (Nat.gcd z.natAbs n))
 have hl2:=nl_mono (Nat.div_le_self n (Nat.gcd z.natAbs n))
 have hl3:=nl_mono (Nat.gcd_le_right z.natAbs (Nat.pos_of_ne_zero hn))
 rw [<-m1] at hl1
 rw [<-m2] at hl2
 have hpath:(decide (n=1)=true/\z.natAbs=q.num.natAbs/\n=q.den)\/(decide (n=1)=false/\decide (Nat.gcd z.natAbs n=1)=true/\z.natAbs=q.num.natAbs/\n=q.den)\/(decide (n=1)=false/\decide (Nat.gcd z.natAbs n=1)=false):=by
  by_cases h1:n=1
  ·refine .inl ⟨decide_eq_true h1,?_,?_⟩
   ·rw [m1,h1,Nat.gcd_one_right,Nat.div_one]
   ·rw [m2,h1,Nat.gcd_one_right,Nat.div_one]
  ·by_cases h2:Nat.gcd z.natAbs n=1
   ·exact .inr (.inl ⟨decide_eq_false h1,decide_eq_true h2,by rw [m1,h2,Nat.div_one],by rw [m2,h2,Nat.div_one]⟩)
   ·exact .inr (.inr ⟨decide_eq_false h1,decide_eq_false h2⟩)
 have hcn:=clone_fn (natL q.den) (by show nl q.den<=16777216; omega)
 have hob:small q->Fn Tryz.prog 145 [⟨tBig,(decide (z < 0),natL q.num.natAbs)⟩] true [⟨tBig,(decide (z < 0),natL q.num.natAbs)⟩]:=fun hs=>by
  have:=ownBig_fn q.num (by have:=hs.1; omega)
  unfold bigD at this
  rw [m3] at this
  exact this
 have hend:small q\/(24:Int) < nl q.num.natAbs\/(¬ (24:Int) < nl q.num.natAbs/\(24:Int) < nl q.den):=by unfold small; omega
 rcases hpath with ⟨hd,e1,e2⟩|⟨hd,hd2,e1,e2⟩|⟨hd,hd2⟩
 ·rcases hend with hs|hA|⟨hA,hB⟩
  ·rw [capR_data hs,m3]
   have hA:¬ (24:Int) < nl q.num.natAbs:=by have:=hs.1; omega
   have hB:¬ (24:Int) < nl q.den:=by have:=hs.2; omega
   have hob:=hob hs
   rw [<-e1] at hA hob; rw [<-e2] at hB hcn; rw [<-e1,<-e2]
   refine fe Tryz.func106 Tryz.ntmps106 Tryz.results106 fun hwf=>?_
   try simp (maxSteps:=9^9) only[go_sem]
   repeat refine AI ?_
   refine cw (isOne_fn n) ?_
   try simp (maxSteps:=9^9) only[go_sem]
   try simp (maxSteps:=9^9) only[go_sem,hd,hA,hB]
   repeat refine AI ?_
   refine cw hob ?_
   try simp (maxSteps:=9^9) only[go_sem]
   repeat refine AI ?_
   refine cw hcn ?_
   try simp (maxSteps:=9^9) only[go_sem]
  ·rw [capR_none (by unfold small; omega)]
   rw [<-e1] at hA
   refine fe Tryz.func106 Tryz.ntmps106 Tryz.results106 fun hwf=>?_
   try simp (maxSteps:=9^9) only[go_sem]
   repeat refine AI ?_
   refine cw (isOne_fn n) ?_
   try simp (maxSteps:=9^9) only[go_sem]
   try simp (maxSteps:=9^9) only[go_sem,hd,hA]
  ·rw [capR_none (by unfold small; omega)]
   rw [<-e1] at hA; rw [<-e2] at hB
   refine fe Tryz.func106 Tryz.ntmps106 Tryz.results106 fun hwf=>?_
   try simp (maxSteps:=9^9) only[go_sem]
   repeat refine AI ?_
   refine cw (isOne_fn n) ?_
   try simp (maxSteps:=9^9) only[go_sem]
   try simp (maxSteps:=9^9) only[go_sem,hd,hA,hB]
 ·rcases hend with hs|hA|⟨hA,hB⟩
  ·rw [capR_data hs,m3]
   have hA:¬ (24:Int) < nl q.num.natAbs:=by have:=hs.1; omega
   have hB:¬ (24:Int) < nl q.den:=by have:=hs.2; omega
   have hob:=hob hs
   rw [<-e1] at hA hob; rw [<-e2] at hB hcn; rw [<-e1,<-e2]
   refine fe Tryz.func106 Tryz.ntmps106 Tryz.results106 fun hwf=>?_
   try simp (maxSteps:=9^9) only[go_sem]
   repeat refine AI ?_
   refine cw (isOne_fn n) ?_
   try simp (maxSteps:=9^9) only[go_sem]
   try simp (maxSteps:=9^9) only[go_sem,hd]
   repeat refine AI ?_
   refine cw (natGcd_fn z.natAbs n (by omega) (by omega)) ?_
   try simp (maxSteps:=9^9) only[go_sem]
   repeat refine AI ?_
   refine cw (isOne_fn (Nat.gcd z.natAbs n)) ?_
   try simp (maxSteps:=9^9) only[go_sem]
   try simp (maxSteps:=9^9) only[go_sem,hd2,hA,hB]
   repeat refine AI ?_
   refine cw hob ?_
   try simp (maxSteps:=9^9) only[go_sem]
   repeat refine AI ?_
   refine cw hcn ?_
   try simp (maxSteps:=9^9) only[go_sem]
  ·rw [capR_none (by unfold small; omega)]
   rw [<-e1] at hA
   refine fe Tryz.func106 Tryz.ntmps106 Tryz.results106 fun hwf=>?_
   try simp (maxSteps:=9^9) only[go_sem]
   repeat refine AI ?_
   refine cw (isOne_fn n) ?_
   try simp (maxSteps:=9^9) only[go_sem]
   try simp (maxSteps:=9^9) only[go_sem,hd]
   repeat refine AI ?_
   refine cw (natGcd_fn z.natAbs n (by omega) (by omega)) ?_
   try simp (maxSteps:=9^9) only[go_sem]
   repeat refine AI ?_
   refine cw (isOne_fn (Nat.gcd z.natAbs n)) ?_
   try simp (maxSteps:=9^9) only[go_sem]
   try simp (maxSteps:=9^9) only[go_sem,hd2,hA]
  ·rw [capR_none (by unfold small; omega)]
   rw [<-e1] at hA; rw [<-e2] at hB
   refine fe Tryz.func106 Tryz.ntmps106 Tryz.results106 fun hwf=>?_
   try simp (maxSteps:=9^9) only[go_sem]
   repeat refine AI ?_
   refine cw (isOne_fn n) ?_
   try simp (maxSteps:=9^9) only[go_sem]
   try simp (maxSteps:=9^9) only[go_sem,hd]
   repeat refine AI ?_
   refine cw (natGcd_fn z.natAbs n (by omega) (by omega)) ?_
   try simp (maxSteps:=9^9) only[go_sem]
   repeat refine AI ?_
   refine cw (isOne_fn (Nat.gcd z.natAbs n)) ?_
   try simp (maxSteps:=9^9) only[go_sem]
   try simp (maxSteps:=9^9) only[go_sem,hd2,hA,hB]
 ·rcases hend with hs|hA|⟨hA,hB⟩
  ·rw [capR_data hs,m3]
   have hA:¬ (24:Int) < nl q.num.natAbs:=by have:=hs.1; omega
   have hB:¬ (24:Int) < nl q.den:=by have:=hs.2; omega
   have hob:=hob hs
   refine fe Tryz.func106 Tryz.ntmps106 Tryz.results106 fun hwf=>?_
   try simp (maxSteps:=9^9) only[go_sem]
   repeat refine AI ?_
   refine cw (isOne_fn n) ?_
   try simp (maxSteps:=9^9) only[go_sem]
   try simp (maxSteps:=9^9) only[go_sem,hd]
   repeat refine AI ?_
   refine cw (natGcd_fn z.natAbs n (by omega) (by omega)) ?_
   try simp (maxSteps:=9^9) only[go_sem]
   repeat refine AI ?_
   refine cw (isOne_fn (Nat.gcd z.natAbs n)) ?_
   try simp (maxSteps:=9^9) only[go_sem]
   try simp (maxSteps:=9^9) only[go_sem,hd2]
   have c1:=natDiv_fn z.natAbs (Nat.gcd z.natAbs n) hg0 (by omega) (by omega)
   rw [<-m1] at c1
   repeat refine AI ?_
   refine cw c1 ?_
   try simp (maxSteps:=9^9) only[go_sem]
   have c2:=natDiv_fn n (Nat.gcd z.natAbs n) hg0 (by omega) (by omega)
   rw [<-m2] at c2
   repeat refine AI ?_
   refine cw c2 ?_
   try simp (maxSteps:=9^9) only[go_sem]
   try simp (maxSteps:=9^9) only[go_sem,hA,hB]
   repeat refine AI ?_
   refine cw hob ?_
   try simp (maxSteps:=9^9) only[go_sem]
   repeat refine AI ?_
   refine cw hcn ?_
   try simp (maxSteps:=9^9) only[go_sem]
  ·rw [capR_none (by unfold small; omega)]
   refine fe Tryz.func106 Tryz.ntmps106 Tryz.results106 fun hwf=>?_
   try simp (maxSteps:=9^9) only[go_sem]
   repeat refine AI ?_
   refine cw (isOne_fn n) ?_
   try simp (maxSteps:=9^9) only[go_sem]
   try simp (maxSteps:=9^9) only[go_sem,hd]
   repeat refine AI ?_
   refine cw (natGcd_fn z.natAbs n (by omega) (by omega)) ?_
   try simp (maxSteps:=9^9) only[go_sem]
   repeat refine AI ?_
   refine cw (isOne_fn (Nat.gcd z.natAbs n)) ?_
   try simp (maxSteps:=9^9) only[go_sem]
   try simp (maxSteps:=9^9) only[go_sem,hd2]
   have c1:=natDiv_fn z.natAbs (Nat.gcd z.natAbs n) hg0 (by omega) (by omega)
   rw [<-m1] at c1
   repeat refine AI ?_
   refine cw c1 ?_
   try simp (maxSteps:=9^9) only[go_sem]
   have c2:=natDiv_fn n (Nat.gcd z.natAbs n) hg0 (by omega) (by omega)
   rw [<-m2] at c2
   repeat refine AI ?_
   refine cw c2 ?_
   try simp (maxSteps:=9^9) only[go_sem]
   try simp (maxSteps:=9^9) only[go_sem,hA]
  ·rw [capR_none (by unfold small; omega)]
   refine fe Tryz.func106 Tryz.ntmps106 Tryz.results106 fun hwf=>?_
   try simp (maxSteps:=9^9) only[go_sem]
   repeat refine AI ?_
   refine cw (isOne_fn n) ?_
   try simp (maxSteps:=9^9) only[go_sem]
   try simp (maxSteps:=9^9) only[go_sem,hd]
   repeat refine AI ?_
   refine cw (natGcd_fn z.natAbs n (by omega) (by omega)) ?_
   try simp (maxSteps:=9^9) only[go_sem]
   repeat refine AI ?_
   refine cw (isOne_fn (Nat.gcd z.natAbs n)) ?_
   try simp (maxSteps:=9^9) only[go_sem]
   try simp (maxSteps:=9^9) only[go_sem,hd2]
   have c1:=natDiv_fn z.natAbs (Nat.gcd z.natAbs n) hg0 (by omega) (by omega)
   rw [<-m1] at c1
   repeat refine AI ?_
   refine cw c1 ?_
   try simp (maxSteps:=9^9) only[go_sem]
   have c2:=natDiv_fn n (Nat.gcd z.natAbs n) hg0 (by omega) (by omega)
   rw [<-m2] at c2
   repeat refine AI ?_
   refine cw c2 ?_
   try simp (maxSteps:=9^9) only[go_sem]
   try simp (maxSteps:=9^9) only[go_sem,hA,hB]
theorem sgn_abs (s:Bool) (a:Nat):(sgn s a).natAbs=a:=by unfold sgn; split<;>omega
theorem sgn_neg (s:Bool) (a:Nat):decide (sgn s a < 0)=(s && decide (0 < a)):=by
 unfold sgn
 cases s
 ·simp
 ·simp<;>omega
set_option maxHeartbeats 1000000 in
theorem l04Low_fn (s:Bool) (a b:Nat) (hb:b ≠ 0) (ha:nl a<=60) (hbl:nl b<=60):Fn Tryz.prog 136 [⟨.bool,s⟩,⟨tInts,natL a⟩,⟨tInts,natL b⟩] true [⟨tRat,oD (capR (_root_.mkRat (sgn s a) b))⟩]:=by
 obtain ⟨m1,m2,m3⟩:=mk_abs (z:=sgn s a) hb
 rw [sgn_abs] at m1 m2
 rw [sgn_neg] at m3
 generalize hq:_root_.mkRat (sgn s a) b=q at *
 have hg0:0 < Nat.gcd a b:=Nat.gcd_pos_of_pos_right _ (Nat.pos_of_ne_zero hb)
 have hl1:=nl_mono (Nat.div_le_self a (Nat.gcd a b))
 have hl2:=nl_mono (Nat.div_le_self b (Nat.gcd a b))
 have hl3:=nl_mono (Nat.gcd_le_right a (Nat.pos_of_ne_zero hb))
 rw [<-m1] at hl1
 rw [<-m2] at hl2
 have hb0:¬ (nl b:Int)=0:=fun h=>hb (nl_eq_zero.1 (by omega))
 have ht1:=l02Trim_fn (natL a)
 rw [trimL_natL] at ht1
 have ht2:=l02Trim_fn (natL b)
 rw [trimL_natL] at ht2
 have hqs:sgn s q.num.natAbs=q.num:=by
  have h1:(0 < a)->0 < q.num.natAbs:=fun h=>by
   rw [m1]; exact Nat.div_pos (Nat.le_of_dvd h (Nat.gcd_dvd_left ..)) hg0
  have h2:a=0->q.num.natAbs=0:=fun h=>by rw [m1,h,Nat.zero_div]
  unfold sgn
  cases s
  ·have:¬ q.num < 0:=by simpa using m3
   simp only [Bool.false_eq_true,if_false]; omega
  ·simp only [if_true]
   rcases Nat.eq_zero_or_pos a with h|h
   ·have:=h2 h; omega
   ·have:=h1 h
    have:q.num < 0:=by simpa [h] using m3
    omega
 have hpath:(decide (b=1)=true/\a=q.num.natAbs/\b=q.den)\/(decide (b=1)=false/\decide (Nat.gcd a b=1)=true/\a=q.num.natAbs/\b=q.den)\/(decide (b=1)=false/\decide (Nat.gcd a b=1)=false):=by
  by_cases h1:b=1
  ·refine .inl ⟨decide_eq_true h1,?_,?_⟩
   ·rw [m1,h1,Nat.gcd_one_right,Nat.div_one]
   ·rw [m2,h1,Nat.gcd_one_right,Nat.div_one]
  ·by_cases h2:Nat.gcd a b=1
   ·exact .inr (.inl ⟨decide_eq_false h1,decide_eq_true h2,by rw [m1,h2,Nat.div_one],by rw [m2,h2,Nat.div_one]⟩)
   ·exact .inr (.inr ⟨decide_eq_false h1,decide_eq_false h2⟩)
 have hob:small q->Fn Tryz.prog 137 [⟨.bool,s⟩,⟨tInts,natL q.num.natAbs⟩] true [⟨tBig,bigD q.num⟩]:=fun hs=>l03Make_to hqs (by have:=hs.1; omega)
 have hend:small q\/(24:Int) < nl q.num.natAbs\/(¬ (24:Int) < nl q.num.natAbs/\(24:Int) < nl q.den):=by unfold small; omega
 rcases hpath with ⟨hd,e1,e2⟩|⟨hd,hd2,e1,e2⟩|⟨hd,hd2⟩
 ·rcases hend with hs|hA|⟨hA,hB⟩
  ·rw [capR_s hs]
   have hA:¬ (24:Int) < nl q.num.natAbs:=by have:=hs.1; omega
   have hB:¬ (24:Int) < nl q.den:=by have:=hs.2; omega
   have hob:=hob hs
   rw [<-e1] at hA hob; rw [<-e2] at hB
   refine fe Tryz.func136 Tryz.ntmps136 Tryz.results136 fun hwf=>?_
   try simp (maxSteps:=9^9) only[go_sem]
   repeat refine AI ?_
   refine cw ht1 ?_
   try simp (maxSteps:=9^9) only[go_sem]
   repeat refine AI ?_
   refine cw ht2 ?_
   try simp (maxSteps:=9^9) only[go_sem]
   try simp (maxSteps:=9^9) only[go_sem,hb0]
   repeat refine AI ?_
   refine cw (l04One_fn b) ?_
   try simp (maxSteps:=9^9) only[go_sem]
   try simp (maxSteps:=9^9) only[go_sem,hd,hA,hB]
   repeat refine AI ?_
   refine cw hob ?_
   try simp (maxSteps:=9^9) only[go_sem]
   repeat refine AI ?_
   try simp (maxSteps:=9^9) only[go_sem,e2]
   try omega
  ·rw [capR_none (by unfold small; omega)]
   rw [<-e1] at hA
   refine fe Tryz.func136 Tryz.ntmps136 Tryz.results136 fun hwf=>?_
   try simp (maxSteps:=9^9) only[go_sem]
   repeat refine AI ?_
   refine cw ht1 ?_
   try simp (maxSteps:=9^9) only[go_sem]
   repeat refine AI ?_
   refine cw ht2 ?_
   try simp (maxSteps:=9^9) only[go_sem]
   try simp (maxSteps:=9^9) only[go_sem,hb0]
   repeat refine AI ?_
   refine cw (l04One_fn b) ?_
   try simp (maxSteps:=9^9) only[go_sem]
   try simp (maxSteps:=9^9) only[go_sem,hd,hA]
  ·rw [capR_none (by unfold small; omega)]
   rw [<-e1] at hA; rw [<-e2] at hB
   refine fe Tryz.func136 Tryz.ntmps136 Tryz.results136 fun hwf=>?_
   try simp (maxSteps:=9^9) only[go_sem]
   repeat refine AI ?_
   refine cw ht1 ?_
   try simp (maxSteps:=9^9) only[go_sem]
   repeat refine AI ?_
   refine cw ht2 ?_
   try simp (maxSteps:=9^9) only[go_sem]
   try simp (maxSteps:=9^9) only[go_sem,hb0]
   repeat refine AI ?_
   refine cw (l04One_fn b) ?_
   try simp (maxSteps:=9^9) only[go_sem]
   try simp (maxSteps:=9^9) only[go_sem,hd,hA,hB]
 ·rcases hend with hs|hA|⟨hA,hB⟩
  ·rw [capR_s hs]
   have hA:¬ (24:Int) < nl q.num.natAbs:=by have:=hs.1; omega
   have hB:¬ (24:Int) < nl q.den:=by have:=hs.2; omega
   have hob:=hob hs
   rw [<-e1] at hA hob; rw [<-e2] at hB
   refine fe Tryz.func136 Tryz.ntmps136 Tryz.results136 fun hwf=>?_
   try simp (maxSteps:=9^9) only[go_sem]
   repeat refine AI ?_
   refine cw ht1 ?_
   try simp (maxSteps:=9^9) only[go_sem]
   repeat refine AI ?_
   refine cw ht2 ?_
   try simp (maxSteps:=9^9) only[go_sem]
   try simp (maxSteps:=9^9) only[go_sem,hb0]
   repeat refine AI ?_
   refine cw (l04One_fn b) ?_
   try simp (maxSteps:=9^9) only[go_sem]
   try simp (maxSteps:=9^9) only[go_sem,hd]
   repeat refine AI ?_
   refine cw (l02Gcd_fn a b (by omega) (by omega)) ?_
   try simp (maxSteps:=9^9) only[go_sem]
   repeat refine AI ?_
   refine cw (l04One_fn (Nat.gcd a b)) ?_
   try simp (maxSteps:=9^9) only[go_sem]
   try simp (maxSteps:=9^9) only[go_sem,hd2,hA,hB]
   repeat refine AI ?_
   refine cw hob ?_
   try simp (maxSteps:=9^9) only[go_sem]
   repeat refine AI ?_
   try simp (maxSteps:=9^9) only[go_sem,e2]
   try omega
  ·rw [capR_none (by unfold small; omega)]
   rw [<-e1] at hA
   refine fe Tryz.func136 Tryz.ntmps136 Tryz.results136 fun hwf=>?_
   try simp (maxSteps:=9^9) only[go_sem]
   repeat refine AI ?_
   refine cw ht1 ?_
   try simp (maxSteps:=9^9) only[go_sem]
   repeat refine AI ?_
   refine cw ht2 ?_
   try simp (maxSteps:=9^9) only[go_sem]
   try simp (maxSteps:=9^9) only[go_sem,hb0]
   repeat refine AI ?_
   refine cw (l04One_fn b) ?_
   try simp (maxSteps:=9^9) only[go_sem]
   try simp (maxSteps:=9^9) only[go_sem,hd]
   repeat refine AI ?_
   refine cw (l02Gcd_fn a b (by omega) (by omega)) ?_
   try simp (maxSteps:=9^9) only[go_sem]
   repeat refine AI ?_
   refine cw (l04One_fn (Nat.gcd a b)) ?_
   try simp (maxSteps:=9^9) only[go_sem]
   try simp (maxSteps:=9^9) only[go_sem,hd2,hA]
  ·rw [capR_none (by unfold small; omega)]
   rw [<-e1] at hA; rw [<-e2] at hB
   refine fe Tryz.func136 Tryz.ntmps136 Tryz.results136 fun hwf=>?_
   try simp (maxSteps:=9^9) only[go_sem]
   repeat refine AI ?_
   refine cw ht1 ?_
   try simp (maxSteps:=9^9) only[go_sem]
   repeat refine AI ?_
   refine cw ht2 ?_
   try simp (maxSteps:=9^9) only[go_sem]
   try simp (maxSteps:=9^9) only[go_sem,hb0]
   repeat refine AI ?_
   refine cw (l04One_fn b) ?_
   try simp (maxSteps:=9^9) only[go_sem]
   try simp (maxSteps:=9^9) only[go_sem,hd]
   repeat refine AI ?_
   refine cw (l02Gcd_fn a b (by omega) (by omega)) ?_
   try simp (maxSteps:=9^9) only[go_sem]
   repeat refine AI ?_
   refine cw (l04One_fn (Nat.gcd a b)) ?_
   try simp (maxSteps:=9^9) only[go_sem]
   try simp (maxSteps:=9^9) only[go_sem,hd2,hA,hB]
 ·rcases hend with hs|hA|⟨hA,hB⟩
  ·rw [capR_s hs]
   have hA:¬ (24:Int) < nl q.num.natAbs:=by have:=hs.1; omega
   have hB:¬ (24:Int) < nl q.den:=by have:=hs.2; omega
   have hob:=hob hs
   refine fe Tryz.func136 Tryz.ntmps136 Tryz.results136 fun hwf=>?_
   try simp (maxSteps:=9^9) only[go_sem]
   repeat refine AI ?_
   refine cw ht1 ?_
   try simp (maxSteps:=9^9) only[go_sem]
   repeat refine AI ?_
   refine cw ht2 ?_
   try simp (maxSteps:=9^9) only[go_sem]
   try simp (maxSteps:=9^9) only[go_sem,hb0]
   repeat refine AI ?_
   refine cw (l04One_fn b) ?_
   try simp (maxSteps:=9^9) only[go_sem]
   try simp (maxSteps:=9^9) only[go_sem,hd]
   repeat refine AI ?_
   refine cw (l02Gcd_fn a b (by omega) (by omega)) ?_
   try simp (maxSteps:=9^9) only[go_sem]
   repeat refine AI ?_
   refine cw (l04One_fn (Nat.gcd a b)) ?_
   try simp (maxSteps:=9^9) only[go_sem]
   try simp (maxSteps:=9^9) only[go_sem,hd2]
   have c1:=l02Div_fn a (Nat.gcd a b) hg0 (by omega) (by omega)
   rw [<-m1] at c1
   repeat refine AI ?_
   refine cw c1 ?_
   try simp (maxSteps:=9^9) only[go_sem]
   have c2:=l02Div_fn b (Nat.gcd a b) hg0 (by omega) (by omega)
   rw [<-m2] at c2
   repeat refine AI ?_
   refine cw c2 ?_
   try simp (maxSteps:=9^9) only[go_sem]
   try simp (maxSteps:=9^9) only[go_sem,hA,hB]
   repeat refine AI ?_
   refine cw hob ?_
   try simp (maxSteps:=9^9) only[go_sem]
   repeat refine AI ?_
   try simp (maxSteps:=9^9) only[go_sem]
   try omega
  ·rw [capR_none (by unfold small; omega)]
   refine fe Tryz.func136 Tryz.ntmps136 Tryz.results136 fun hwf=>?_
   try simp (maxSteps:=9^9) only[go_sem]
   repeat refine AI ?_
   refine cw ht1 ?_
   try simp (maxSteps:=9^9) only[go_sem]
   repeat refine AI ?_
   refine cw ht2 ?_
   try simp (maxSteps:=9^9) only[go_sem]
   try simp (maxSteps:=9^9) only[go_sem,hb0]
   repeat refine AI ?_
   refine cw (l04One_fn b) ?_
   try simp (maxSteps:=9^9) only[go_sem]
   try simp (maxSteps:=9^9) only[go_sem,hd]
   repeat refine AI ?_
   refine cw (l02Gcd_fn a b (by omega) (by omega)) ?_
   try simp (maxSteps:=9^9) only[go_sem]
   repeat refine AI ?_
   refine cw (l04One_fn (Nat.gcd a b)) ?_
   try simp (maxSteps:=9^9) only[go_sem]
   try simp (maxSteps:=9^9) only[go_sem,hd2]
   have c1:=l02Div_fn a (Nat.gcd a b) hg0 (by omega) (by omega)
   rw [<-m1] at c1
   repeat refine AI ?_
   refine cw c1 ?_
   try simp (maxSteps:=9^9) only[go_sem]
   have c2:=l02Div_fn b (Nat.gcd a b) hg0 (by omega) (by omega)
   rw [<-m2] at c2
   repeat refine AI ?_
   refine cw c2 ?_
   try simp (maxSteps:=9^9) only[go_sem]
   try simp (maxSteps:=9^9) only[go_sem,hA]
  ·rw [capR_none (by unfold small; omega)]
   refine fe Tryz.func136 Tryz.ntmps136 Tryz.results136 fun hwf=>?_
   try simp (maxSteps:=9^9) only[go_sem]
   repeat refine AI ?_
   refine cw ht1 ?_
   try simp (maxSteps:=9^9) only[go_sem]
   repeat refine AI ?_
   refine cw ht2 ?_
   try simp (maxSteps:=9^9) only[go_sem]
   try simp (maxSteps:=9^9) only[go_sem,hb0]
   repeat refine AI ?_
   refine cw (l04One_fn b) ?_
   try simp (maxSteps:=9^9) only[go_sem]
   try simp (maxSteps:=9^9) only[go_sem,hd]
   repeat refine AI ?_
   refine cw (l02Gcd_fn a b (by omega) (by omega)) ?_
   try simp (maxSteps:=9^9) only[go_sem]
   repeat refine AI ?_
   refine cw (l04One_fn (Nat.gcd a b)) ?_
   try simp (maxSteps:=9^9) only[go_sem]
   try simp (maxSteps:=9^9) only[go_sem,hd2]
   have c1:=l02Div_fn a (Nat.gcd a b) hg0 (by omega) (by omega)
   rw [<-m1] at c1
   repeat refine AI ?_
   refine cw c1 ?_
   try simp (maxSteps:=9^9) only[go_sem]
   have c2:=l02Div_fn b (Nat.gcd a b) hg0 (by omega) (by omega)
   rw [<-m2] at c2
   repeat refine AI ?_
   refine cw c2 ?_
   try simp (maxSteps:=9^9) only[go_sem]
   try simp (maxSteps:=9^9) only[go_sem,hA,hB]
attribute [go_sem] Option.isSome_none bigD_nat
theorem isGood_n:Fn Tryz.prog 56 [⟨tRat,((false,[]),[])⟩] false [⟨.bool,false⟩]:=isGood_fn none
theorem isGood_s (q:Rat):Fn Tryz.prog 56 [⟨tRat,ratD q⟩] false [⟨.bool,true⟩]:=isGood_fn (some q)
theorem ratCmp_fn (x y:Option Rat) (hx:okO x) (hy:okO y):Fn Tryz.prog 29 [⟨tRat,oD x⟩,⟨tRat,oD y⟩] false [⟨.int,cmpO x y⟩]:=by
 cases x with
 | none =>
  refine fe Tryz.func29 Tryz.ntmps29 Tryz.results29 fun hwf=>?_
  try simp (maxSteps:=9^9) only[go_sem]
  repeat refine AI ?_
  refine cw isGood_n ?_
  try simp (maxSteps:=9^9) only[go_sem]
  rfl
 | some p =>
  cases y with
  | none =>
   refine fe Tryz.func29 Tryz.ntmps29 Tryz.results29 fun hwf=>?_
   try simp (maxSteps:=9^9) only[go_sem]
   repeat refine AI ?_
   refine cw (isGood_s p) ?_
   try simp (maxSteps:=9^9) only[go_sem]
   repeat refine AI ?_
   refine cw isGood_n ?_
   try simp (maxSteps:=9^9) only[go_sem]
   rfl
  | some q =>
   obtain ⟨p1,p2⟩:=hx p rfl
   obtain ⟨q1,q2⟩:=hy q rfl
   refine fe Tryz.func29 Tryz.ntmps29 Tryz.results29 fun hwf=>?_
   try simp (maxSteps:=9^9) only[go_sem]
   repeat refine AI ?_
   refine cw (isGood_s p) ?_
   try simp (maxSteps:=9^9) only[go_sem]
   repeat refine AI ?_
   refine cw (isGood_s q) ?_
   try simp (maxSteps:=9^9) only[go_sem]
   repeat refine AI ?_
   refine cw (bigMulN_fn p.num q.den (by omega) (by omega)) ?_
   try simp (maxSteps:=9^9) only[go_sem]
   repeat refine AI ?_
   refine cw (bigMulN_fn q.num p.den (by omega) (by omega)) ?_
   try simp (maxSteps:=9^9) only[go_sem]
   repeat refine AI ?_
   refine cw (bigCmp_fn (p.num * q.den) (q.num * p.den)) ?_
   try simp (maxSteps:=9^9) only[go_sem]
   repeat refine AI ?_
   exact (cmpQ_eq p q).symm
theorem nl_mulZ (a:Int) (n:Nat):nl (a * (n:Int)).natAbs<=nl a.natAbs+nl n:=by
 rw [Int.natAbs_mul,Int.natAbs_natCast]; exact nl_mul _ _
theorem nl_addZ (a b:Int):nl (a+b).natAbs<=max (nl a.natAbs) (nl b.natAbs)+1:=Nat.le_trans (nl_mono (Int.natAbs_add_le a b)) (nl_add _ _)
theorem nl_mulI (a b:Int):nl (a * b).natAbs<=nl a.natAbs+nl b.natAbs:=by
 rw [Int.natAbs_mul]; exact nl_mul _ _
theorem den_mul_ne (p q:Rat):p.den * q.den ≠ 0:=Nat.mul_ne_zero p.den_nz q.den_nz
theorem ratAdd_fn (x y:Option Rat) (hx:okO x) (hy:okO y):Fn Tryz.prog 65 [⟨tRat,oD x⟩,⟨tRat,oD y⟩] true [⟨tRat,oD (addO x y)⟩]:=by
 cases x with
 | none =>
  refine fe Tryz.func65 Tryz.ntmps65 Tryz.results65 fun hwf=>?_
  try simp (maxSteps:=9^9) only[go_sem]
  repeat refine AI ?_
  refine cw isGood_n ?_
  try simp (maxSteps:=9^9) only[go_sem]
  try simp (maxSteps:=9^9) only[go_sem,addO]
 | some p =>
  cases y with
  | none =>
   refine fe Tryz.func65 Tryz.ntmps65 Tryz.results65 fun hwf=>?_
   try simp (maxSteps:=9^9) only[go_sem]
   repeat refine AI ?_
   refine cw (isGood_s p) ?_
   try simp (maxSteps:=9^9) only[go_sem]
   repeat refine AI ?_
   refine cw isGood_n ?_
   try simp (maxSteps:=9^9) only[go_sem]
   try simp (maxSteps:=9^9) only[go_sem,addO]
  | some q =>
   obtain ⟨p1,p2⟩:=hx p rfl
   obtain ⟨q1,q2⟩:=hy q rfl
   have b1:=nl_mulZ p.num q.den
   have b2:=nl_mulZ q.num p.den
   have b3:=nl_addZ (p.num * q.den) (q.num * p.den)
   have b4:=nl_mul p.den q.den
   have hm:=ratMake_end (p.num * q.den+q.num * p.den) (p.den * q.den) (den_mul_ne p q) (by omega) (by omega)
   rw [<-add_mk] at hm
   have e:addO (some p) (some q)=capR (p+q):=rfl
   rw [e]
   refine fe Tryz.func65 Tryz.ntmps65 Tryz.results65 fun hwf=>?_
   try simp (maxSteps:=9^9) only[go_sem]
   repeat refine AI ?_
   refine cw (isGood_s p) ?_
   try simp (maxSteps:=9^9) only[go_sem]
   repeat refine AI ?_
   refine cw (isGood_s q) ?_
   try simp (maxSteps:=9^9) only[go_sem]
   repeat refine AI ?_
   refine cw (bigMulN_fn p.num q.den (by omega) (by omega)) ?_
   try simp (maxSteps:=9^9) only[go_sem]
   repeat refine AI ?_
   refine cw (bigMulN_fn q.num p.den (by omega) (by omega)) ?_
   try simp (maxSteps:=9^9) only[go_sem]
   repeat refine AI ?_
   refine cw (bigAdd_fn (p.num * q.den) (q.num * p.den) (by omega) (by omega)) ?_
   try simp (maxSteps:=9^9) only[go_sem]
   repeat refine AI ?_
   refine cw (natMul_fn p.den q.den (by omega) (by omega)) ?_
   try simp (maxSteps:=9^9) only[go_sem]
   repeat refine AI ?_
   refine cw hm ?_
   try simp (maxSteps:=9^9) only[go_sem]
   all_goals repeat refine AI ?_
   all_goals first|kernel_rfl|omega|rfl
theorem ratNeg_fn (x:Option Rat):Fn Tryz.prog 141 [⟨tRat,oD x⟩] false [⟨tRat,oD (negO x)⟩]:=by
 cases x with
 | none =>
  have hb:=bigNeg_fn 0
  rw [Int.neg_zero,bigD_zero] at hb
  refine fe Tryz.func141 Tryz.ntmps141 Tryz.results141 fun hwf=>?_
  try simp (maxSteps:=9^9) only[go_sem]
  repeat refine AI ?_
  refine cw hb ?_
  try simp (maxSteps:=9^9) only[go_sem]
  try simp (maxSteps:=9^9) only[go_sem,negO]
  all_goals repeat refine AI ?_
  all_goals first|kernel_rfl|omega|rfl
 | some p =>
  refine fe Tryz.func141 Tryz.ntmps141 Tryz.results141 fun hwf=>?_
  try simp (maxSteps:=9^9) only[go_sem]
  repeat refine AI ?_
  refine cw (bigNeg_fn p.num) ?_
  try simp (maxSteps:=9^9) only[go_sem]
  try simp (maxSteps:=9^9) only[go_sem,negO,Rat.neg_num,Rat.neg_den]
  all_goals repeat refine AI ?_
  all_goals first|kernel_rfl|omega|rfl
theorem ratSub_fn (x y:Option Rat) (hx:okO x) (hy:okO y):Fn Tryz.prog 94 [⟨tRat,oD x⟩,⟨tRat,oD y⟩] true [⟨tRat,oD (subO x y)⟩]:=by
 show Fn _ _ _ _ [⟨tRat,oD (addO x (negO y))⟩]
 have h1:=ratNeg_fn y
 have h2:=ratAdd_fn x (negO y) hx (okO_neg hy)
 refine fe Tryz.func94 Tryz.ntmps94 Tryz.results94 fun hwf=>?_
 try simp (maxSteps:=9^9) only[go_sem]
 repeat refine AI ?_
 refine cw h1 ?_
 try simp (maxSteps:=9^9) only[go_sem]
 repeat refine AI ?_
 refine cw h2 ?_
 try simp (maxSteps:=9^9) only[go_sem]
 all_goals repeat refine AI ?_
 all_goals first|kernel_rfl|omega|rfl
theorem cmpQ_zero (p:Rat):cmpQ p 0=cmpZ p.num 0:=by
 rw [cmpQ_eq]
 simp
theorem ratSign_fn (x:Option Rat):Fn Tryz.prog 26 [⟨tRat,oD x⟩] false [⟨.int,sgnO x⟩]:=by
 cases x with
 | none =>
  refine fe Tryz.func26 Tryz.ntmps26 Tryz.results26 fun hwf=>?_
  try simp (maxSteps:=9^9) only[go_sem]
  repeat refine AI ?_
  refine cw isGood_n ?_
  try simp (maxSteps:=9^9) only[go_sem]
  try simp (maxSteps:=9^9) only[go_sem,sgnO]
 | some p =>
  have e:sgnO (some p)=cmpZ p.num 0:=cmpQ_zero p
  rw [e]
  by_cases h0:(nl p.num.natAbs:Int)=0
  ·have:p.num=0:=by have:=nl_eq_zero.1 (show nl p.num.natAbs=0 by omega); omega
   refine fe Tryz.func26 Tryz.ntmps26 Tryz.results26 fun hwf=>?_
   try simp (maxSteps:=9^9) only[go_sem]
   repeat refine AI ?_
   refine cw (isGood_s p) ?_
   try simp (maxSteps:=9^9) only[go_sem]
   try simp (maxSteps:=9^9) only[go_sem,h0]
   simp [cmpZ,this]
  ·have h1:p.num ≠ 0:=fun h=>h0 (by rw [h]; simp [nl_zero])
   by_cases h2:p.num < 0
   ·refine fe Tryz.func26 Tryz.ntmps26 Tryz.results26 fun hwf=>?_
    try simp (maxSteps:=9^9) only[go_sem]
    repeat refine AI ?_
    refine cw (isGood_s p) ?_
    try simp (maxSteps:=9^9) only[go_sem]
    try simp (maxSteps:=9^9) only[go_sem,h0,h2]
    simp [cmpZ,h2]
   ·have h3:0 < p.num:=by omega
    refine fe Tryz.func26 Tryz.ntmps26 Tryz.results26 fun hwf=>?_
    try simp (maxSteps:=9^9) only[go_sem]
    repeat refine AI ?_
    refine cw (isGood_s p) ?_
    try simp (maxSteps:=9^9) only[go_sem]
    try simp (maxSteps:=9^9) only[go_sem,h0,h2]
    simp [cmpZ,h2,h3]
noncomputable def maxO:Option Rat->Option Rat->Option Rat
 | some p,some q=>if 0<=cmpQ p q then some p else some q
 | _,_=>none
noncomputable def minO:Option Rat->Option Rat->Option Rat
 | some p,some q=>if cmpQ p q<=0 then some p else some q
 | _,_=>none
theorem okO_max {x y:Option Rat} (hx:okO x) (hy:okO y):okO (maxO x y):=by
 unfold maxO
 split
 ·split
  ·exact hx
  ·exact hy
 ·exact okO_none
theorem okO_min {x y:Option Rat} (hx:okO x) (hy:okO y):okO (minO x y):=by
 unfold minO
 split
 ·split
  ·exact hx
  ·exact hy
 ·exact okO_none
theorem ratMax_fn (x y:Option Rat) (hx:okO x) (hy:okO y):Fn Tryz.prog 126 [⟨tRat,oD x⟩,⟨tRat,oD y⟩] false [⟨tRat,oD (maxO x y)⟩]:=by
 cases x with
 | none =>
  refine fe Tryz.func126 Tryz.ntmps126 Tryz.results126 fun hwf=>?_
  try simp (maxSteps:=9^9) only[go_sem]
  repeat refine AI ?_
  refine cw isGood_n ?_
  try simp (maxSteps:=9^9) only[go_sem]
  try simp (maxSteps:=9^9) only[go_sem,maxO]
 | some p =>
  cases y with
  | none =>
   refine fe Tryz.func126 Tryz.ntmps126 Tryz.results126 fun hwf=>?_
   try simp (maxSteps:=9^9) only[go_sem]
   repeat refine AI ?_
   refine cw (isGood_s p) ?_
   try simp (maxSteps:=9^9) only[go_sem]
   repeat refine AI ?_
   refine cw isGood_n ?_
   try simp (maxSteps:=9^9) only[go_sem]
   try simp (maxSteps:=9^9) only[go_sem,maxO]
  | some q =>
   have hc:=ratCmp_fn (some p) (some q) hx hy
   have e:cmpO (some p) (some q)=cmpQ p q:=rfl
   rw [e] at hc
   by_cases h:0<=cmpQ p q
   ·have e2:maxO (some p) (some q)=some p:=if_pos h
    rw [e2]
    refine fe Tryz.func126 Tryz.ntmps126 Tryz.results126 fun hwf=>?_
    try simp (maxSteps:=9^9) only[go_sem]
    repeat refine AI ?_
    refine cw (isGood_s p) ?_
    try simp (maxSteps:=9^9) only[go_sem]
    repeat refine AI ?_
    refine cw (isGood_s q) ?_
    try simp (maxSteps:=9^9) only[go_sem]
    repeat refine AI ?_
    refine cw hc ?_
    try simp (maxSteps:=9^9) only[go_sem]
    try simp (maxSteps:=9^9) only[go_sem,h]
   ·have e2:maxO (some p) (some q)=some q:=if_neg h
    rw [e2]
    refine fe Tryz.func126 Tryz.ntmps126 Tryz.results126 fun hwf=>?_
    try simp (maxSteps:=9^9) only[go_sem]
    repeat refine AI ?_
    refine cw (isGood_s p) ?_
    try simp (maxSteps:=9^9) only[go_sem]
    repeat refine AI ?_
    refine cw (isGood_s q) ?_
    try simp (maxSteps:=9^9) only[go_sem]
    repeat refine AI ?_
    refine cw hc ?_
    try simp (maxSteps:=9^9) only[go_sem]
    try simp (maxSteps:=9^9) only[go_sem,h]
theorem ownRat_fn (r:DR) (h1:r.1.2.length<=16777216) (h2:r.2.length<=16777216):Fn Tryz.prog 23 [⟨tRat,r⟩] true [⟨tRat,r⟩]:=by
 obtain ⟨⟨s,a⟩,d⟩:=r
 refine fe Tryz.func23 Tryz.ntmps23 Tryz.results23 fun hwf=>?_
 try simp (maxSteps:=9^9) only[go_sem]
 repeat refine AI ?_
 refine cw (clone_fn a h1) ?_
 try simp (maxSteps:=9^9) only[go_sem]
 repeat refine AI ?_
 refine cw (clone_fn d h2) ?_
 try simp (maxSteps:=9^9) only[go_sem]
 all_goals repeat refine AI ?_
 all_goals first|kernel_rfl|omega|rfl
theorem ownO_fn (x:Option Rat) (hx:okO x):Fn Tryz.prog 23 [⟨tRat,oD x⟩] true [⟨tRat,oD x⟩]:=by
 refine ownRat_fn _ ?_ ?_
 ·cases x with
  | none=>exact Nat.zero_le _
  | some q=>have:=(hx q rfl).1; show nl q.num.natAbs<=_; omega
 ·cases x with
  | none=>exact Nat.zero_le _
  | some q=>have:=(hx q rfl).2; show nl q.den<=_; omega
theorem sgn_mulN (x:Int) (n:Nat):sgn (decide (x < 0)) (x.natAbs * n)=x * n:=by
 unfold sgn
 by_cases h:x < 0
 ·simp only [h,decide_true,if_true,Int.natCast_mul]
  rw [show (x.natAbs:Int)=-x by omega,Int.neg_mul,Int.neg_neg]
 ·simp only [h,decide_false,Bool.false_eq_true,if_false,Int.natCast_mul]
  rw [show (x.natAbs:Int)=x by omega]
theorem natL_1:natL 1=[1]:=natL_one (by decide) (by decide)
theorem l04Add_fn (p q:Rat) (hp:small p) (hq:small q):Fn Tryz.prog 87 [⟨tRat,ratD p⟩,⟨tRat,ratD q⟩] true [⟨tRat,oD (capR (p+q))⟩]:=by
 obtain ⟨p1,p2⟩:=hp
 obtain ⟨q1,q2⟩:=hq
 have b1:=nl_mulZ p.num q.den
 have b2:=nl_mulZ q.num p.den
 have b3:=nl_addZ (p.num * q.den) (q.num * p.den)
 have b4:=nl_mul p.den q.den
 have b5:=nl_mul p.num.natAbs q.den
 have b6:=nl_mul q.num.natAbs p.den
 have b7:=nl_addZ p.num q.num
 have hl:=l04Low_fn (decide (p.num * q.den+q.num * p.den < 0)) (p.num * q.den+q.num * p.den).natAbs (p.den * q.den) (den_mul_ne p q) (by omega) (by omega)
 rw [sgn_bigD,<-add_mk] at hl
 by_cases h1:p.den=1
 ·by_cases h2:q.den=1
  ·have hl1:=l04Low_fn (decide (p.num+q.num < 0)) (p.num+q.num).natAbs 1 (by decide) (by omega) (by have:=nl_small (n:=1) (by decide); omega)
   have e:_root_.mkRat (p.num+q.num) 1=p+q:=by rw [add_mk,h1,h2]; simp
   rw [sgn_bigD,natL_1,e] at hl1
   have d1:decide (p.den=1)=true:=decide_eq_true h1
   have d2:decide (q.den=1)=true:=decide_eq_true h2
   refine fe Tryz.func87 Tryz.ntmps87 Tryz.results87 fun hwf=>?_
   try simp (maxSteps:=9^9) only[go_sem]
   repeat refine AI ?_
   refine cw (l04One_fn p.den) ?_
   try simp (maxSteps:=9^9) only[go_sem]
   try simp (maxSteps:=9^9) only[go_sem,d1]
   repeat refine AI ?_
   refine cw (l04One_fn q.den) ?_
   try simp (maxSteps:=9^9) only[go_sem]
   try simp (maxSteps:=9^9) only[go_sem,d2]
   repeat refine AI ?_
   refine cw (l03Add_fn p.num q.num (by omega) (by omega)) ?_
   try simp (maxSteps:=9^9) only[go_sem]
   repeat refine AI ?_
   refine cw hl1 ?_
   try simp (maxSteps:=9^9) only[go_sem]
   all_goals repeat refine AI ?_
   all_goals first|kernel_rfl|omega|rfl
  ·have d1:decide (p.den=1)=true:=decide_eq_true h1
   have d2:decide (q.den=1)=false:=decide_eq_false h2
   refine fe Tryz.func87 Tryz.ntmps87 Tryz.results87 fun hwf=>?_
   try simp (maxSteps:=9^9) only[go_sem]
   repeat refine AI ?_
   refine cw (l04One_fn p.den) ?_
   try simp (maxSteps:=9^9) only[go_sem]
   try simp (maxSteps:=9^9) only[go_sem,d1]
   repeat refine AI ?_
   refine cw (l04One_fn q.den) ?_
   try simp (maxSteps:=9^9) only[go_sem]
   try simp (maxSteps:=9^9) only[go_sem,d2]
   repeat refine AI ?_
   refine cw (l02Mul_fn p.num.natAbs q.den (by omega) (by omega)) ?_
   try simp (maxSteps:=9^9) only[go_sem]
   repeat refine AI ?_
   refine cw (l03Make_to (sgn_mulN p.num q.den) (by omega)) ?_
   try simp (maxSteps:=9^9) only[go_sem]
   repeat refine AI ?_
   refine cw (l02Mul_fn q.num.natAbs p.den (by omega) (by omega)) ?_
   try simp (maxSteps:=9^9) only[go_sem]
   repeat refine AI ?_
   refine cw (l03Make_to (sgn_mulN q.num p.den) (by omega)) ?_
   try simp (maxSteps:=9^9) only[go_sem]
   repeat refine AI ?_
   refine cw (l03Add_fn (p.num * q.den) (q.num * p.den) (by omega) (by omega)) ?_
   try simp (maxSteps:=9^9) only[go_sem]
   repeat refine AI ?_
   refine cw (l02Mul_fn p.den q.den (by omega) (by omega)) ?_
   try simp (maxSteps:=9^9) only[go_sem]
   repeat refine AI ?_
   refine cw hl ?_
   try simp (maxSteps:=9^9) only[go_sem]
   all_goals repeat refine AI ?_
   all_goals first|kernel_rfl|omega|rfl
 ·have d1:decide (p.den=1)=false:=decide_eq_false h1
  refine fe Tryz.func87 Tryz.ntmps87 Tryz.results87 fun hwf=>?_
  try simp (maxSteps:=9^9) only[go_sem]
  repeat refine AI ?_
  refine cw (l04One_fn p.den) ?_
  try simp (maxSteps:=9^9) only[go_sem]
  try simp (maxSteps:=9^9) only[go_sem,d1]
  repeat refine AI ?_
  refine cw (l02Mul_fn p.num.natAbs q.den (by omega) (by omega)) ?_
  try simp (maxSteps:=9^9) only[go_sem]
  repeat refine AI ?_
  refine cw (l03Make_to (sgn_mulN p.num q.den) (by omega)) ?_
  try simp (maxSteps:=9^9) only[go_sem]
  repeat refine AI ?_
  refine cw (l02Mul_fn q.num.natAbs p.den (by omega) (by omega)) ?_
  try simp (maxSteps:=9^9) only[go_sem]
  repeat refine AI ?_
  refine cw (l03Make_to (sgn_mulN q.num p.den) (by omega)) ?_
  try simp (maxSteps:=9^9) only[go_sem]
  repeat refine AI ?_
  refine cw (l03Add_fn (p.num * q.den) (q.num * p.den) (by omega) (by omega)) ?_
  try simp (maxSteps:=9^9) only[go_sem]
  repeat refine AI ?_
  refine cw (l02Mul_fn p.den q.den (by omega) (by omega)) ?_
  try simp (maxSteps:=9^9) only[go_sem]
  repeat refine AI ?_
  refine cw hl ?_
  try simp (maxSteps:=9^9) only[go_sem]
  all_goals repeat refine AI ?_
  all_goals first|kernel_rfl|omega|rfl
theorem okR_oD {r:DR} (h:okR r=true):oD (rdO r)=r:=by
 obtain ⟨q,_,e1,e2⟩:=okR_t h
 rw [e2,e1]; rfl
attribute [go_sem] Prod.eta
abbrev DP:Type:=DR × DR
noncomputable def okPt (p:DP):Bool:=okR p.1 && okR p.2
theorem implIsValidPoint_fn (p:DP):Fn Tryz.prog 49 [⟨tPoint,p⟩] false [⟨.bool,okPt p⟩]:=by
 cases h:okR p.1
 ·refine fe Tryz.func49 Tryz.ntmps49 Tryz.results49 fun hwf=>?_
  try simp (maxSteps:=9^9) only[go_sem]
  repeat refine AI ?_
  refine cw (implRatOk_fn p.1) ?_
  try simp (maxSteps:=9^9) only[go_sem]
  try simp (maxSteps:=9^9) only[go_sem,h]
  repeat refine AI ?_
  simp [okPt,h]
 ·refine fe Tryz.func49 Tryz.ntmps49 Tryz.results49 fun hwf=>?_
  try simp (maxSteps:=9^9) only[go_sem]
  repeat refine AI ?_
  refine cw (implRatOk_fn p.1) ?_
  try simp (maxSteps:=9^9) only[go_sem]
  try simp (maxSteps:=9^9) only[go_sem,h]
  repeat refine AI ?_
  refine cw (implRatOk_fn p.2) ?_
  try simp (maxSteps:=9^9) only[go_sem]
  repeat refine AI ?_
  simp [okPt,h]
theorem indexFunc_pt_fn (F:FuncId) (p:DP->Bool) (hF:∀ x:DP,Fn Tryz.prog F [⟨tPoint,x⟩] false [⟨.bool,p x⟩]) (l:List DP):Fn Tryz.prog 90 [⟨.slice tPoint,l⟩,⟨.cst (.fn F),()⟩] false [⟨.int,ixf (t:=tPoint) p l⟩]:=by
 refine fe Tryz.func90 Tryz.ntmps90 Tryz.results90 fun hwf=>?_
 have hl:l.length<=9223372036854775807:=(hwf ⟨.slice tPoint,l⟩ (by simp)).1
 try simp (maxSteps:=9^9) only[go_sem]
 refine LoopG.intro _ _ _ (fun i:Nat=>⟨[(0,.sl tPoint l),(1,.sc (.func (.func F) #[] #[])),(7,.sc (.int .i64 l.length)),(8,.sc (.int .i64 i))],[]⟩) (fun i=>∀ j < i,j < l.length->p (nth (t:=tPoint) l j)=false) (fun i=>l.length - i) 0 ?_ (fun j h=>by simp at h) ?_
 ·exact WK
 ·rintro i h2
  try simp (maxSteps:=9^9) only[go_sem]
  refine CondW_dec (fun h3=>?_) (fun h3=>?_)
  ·try simp (maxSteps:=9^9) only[go_sem]
   repeat refine AI ?_
   repeat refine AI ?_
   refine cw (hF (nth (t:=tPoint) l i)) ?_
   try simp (maxSteps:=9^9) only[go_sem]
   refine CondW_b (fun h4=>?_) (fun h4=>?_)
   ·try simp (maxSteps:=9^9) only[go_sem]
    exact (ixf_at (by omega) h4 (fun j hj=>h2 j hj (by omega))).symm
   ·try simp (maxSteps:=9^9) only[go_sem]
    repeat refine AI ?_
    refine LoopK.mk (i+1) ?_ (fun j hj hl=>?_) (by omega)
    ·exact WK
    ·by_cases hj2:j < i
     ·exact h2 j hj2 hl
     ·rw [show j=i by omega]; exact h4
  ·try simp (maxSteps:=9^9) only[go_sem]
   exact (ixf_none fun j hj=>h2 j (by omega) hj).symm
theorem containsFunc_pt_fn (F:FuncId) (p:DP->Bool) (hF:∀ x:DP,Fn Tryz.prog F [⟨tPoint,x⟩] false [⟨.bool,p x⟩]) (l:List DP):Fn Tryz.prog 47 [⟨.slice tPoint,l⟩,⟨.cst (.fn F),()⟩] false [⟨.bool,l.any p⟩]:=by
 refine fe Tryz.func47 Tryz.ntmps47 Tryz.results47 fun hwf=>?_
 try simp (maxSteps:=9^9) only[go_sem]
 repeat refine AI ?_
 refine cw (indexFunc_pt_fn F p hF l) ?_
 try simp (maxSteps:=9^9) only[go_sem]
 exact ixf_any
theorem arePointsC_fn (p:DP):Fn Tryz.prog 48 [⟨tPoint,p⟩] false [⟨.bool,!okPt p⟩]:=by
 refine fe Tryz.func48 Tryz.ntmps48 Tryz.results48 fun hwf=>?_
 try simp (maxSteps:=9^9) only[go_sem]
 repeat refine AI ?_
 refine cw (implIsValidPoint_fn p) ?_
 try simp (maxSteps:=9^9) only[go_sem]
theorem arePoints_fn (l:List DP):Fn Tryz.prog 21 [⟨.slice tPoint,l⟩] false [⟨.bool,!(l.any fun p=>!okPt p)⟩]:=by
 refine fe Tryz.func21 Tryz.ntmps21 Tryz.results21 fun hwf=>?_
 try simp (maxSteps:=9^9) only[go_sem]
 repeat refine AI ?_
 refine cw (containsFunc_pt_fn _ _ arePointsC_fn l) ?_
 try simp (maxSteps:=9^9) only[go_sem]
theorem arePoints2_fn (p q:DP):Fn Tryz.prog 21 [⟨.slice tPoint,[p,q]⟩] false [⟨.bool,okPt p && okPt q⟩]:=by
 have h:=arePoints_fn [p,q]
 have e:(!([p,q].any fun p=>!okPt p))=(okPt p && okPt q):=by simp
 rw [e] at h; exact h
theorem arePoints1_fn (p:DP):Fn Tryz.prog 21 [⟨.slice tPoint,[p]⟩] false [⟨.bool,okPt p⟩]:=by
 have h:=arePoints_fn [p]
 have e:(!([p].any fun p=>!okPt p))=okPt p:=by simp
 rw [e] at h; exact h
abbrev DS:Type:=Int × DP
theorem isHeading_fn (n:Int):Fn Tryz.prog 76 [⟨.int,n⟩] false [⟨.bool,decide (0<=n/\n<=3)⟩]:=by
 refine fe Tryz.func76 Tryz.ntmps76 Tryz.results76 fun hwf=>?_
 try simp (maxSteps:=9^9) only[go_sem]
 repeat refine AI ?_
 refine cw (within_fn n 0 3) ?_
 try simp (maxSteps:=9^9) only[go_sem]
def nxH (h t:Int):Int:=if (0<=h/\h<=3)/\(t=1\/t=-1) then (h+t+4) % 4 else -1
theorem nxH_bad {h:Int} (t:Int) (hh:¬ (0<=h/\h<=3)):nxH h t=-1:=if_neg fun h=>hh h.1
theorem nxH_off (h:Int) {t:Int} (h1:¬ t=1) (h2:¬ t=-1):nxH h t=-1:=if_neg fun h=>h.2.elim h1 h2
theorem nxH_in {h t:Int} (hh:0<=h/\h<=3) (ht:t=1\/t=-1):nxH h t=(h+t+4) % 4:=if_pos ⟨hh,ht⟩
theorem implNextHeading_fn (h t:Int):Fn Tryz.prog 112 [⟨.int,h⟩,⟨.int,t⟩] false [⟨.int,nxH h t⟩]:=by
 have c1:=isHeading_fn h
 by_cases hh:0<=h/\h<=3
 ·rw [decide_eq_true hh] at c1
  by_cases h1:t=1
  ·subst h1
   rw [nxH_in hh (.inl rfl)]
   refine fe Tryz.func112 Tryz.ntmps112 Tryz.results112 fun hwf=>?_
   try simp (maxSteps:=9^9) only[go_sem]
   repeat refine AI ?_
   refine cw c1 ?_
   try simp (maxSteps:=9^9) only[go_sem]
   repeat refine AI ?_
   refine RemW.pos (by omega) (by omega) ?_
   try simp (maxSteps:=9^9) only[go_sem]
  ·by_cases h2:t=-1
   ·subst h2
    rw [nxH_in hh (.inr rfl)]
    refine fe Tryz.func112 Tryz.ntmps112 Tryz.results112 fun hwf=>?_
    try simp (maxSteps:=9^9) only[go_sem]
    repeat refine AI ?_
    refine cw c1 ?_
    try simp (maxSteps:=9^9) only[go_sem]
    repeat refine AI ?_
    refine RemW.pos (by omega) (by omega) ?_
    try simp (maxSteps:=9^9) only[go_sem]
   ·rw [nxH_off h h1 h2]
    refine fe Tryz.func112 Tryz.ntmps112 Tryz.results112 fun hwf=>?_
    try simp (maxSteps:=9^9) only[go_sem]
    repeat refine AI ?_
    refine cw c1 ?_
    try simp (maxSteps:=9^9) only[go_sem]
    try simp (maxSteps:=9^9) only[go_sem,h1,h2]
 ·rw [decide_eq_false hh] at c1
  rw [nxH_bad t hh]
  refine fe Tryz.func112 Tryz.ntmps112 Tryz.results112 fun hwf=>?_
  try simp (maxSteps:=9^9) only[go_sem]
  repeat refine AI ?_
  refine cw c1 ?_
  try simp (maxSteps:=9^9) only[go_sem]
def stp (p x:DS):DS:=if x.1=0 then (p.1,x.2) else if x.1=1\/x.1=-1 then (nxH p.1 x.1,p.2) else p
theorem stp_0 {p x:DS} (h:x.1=0):stp p x=(p.1,x.2):=if_pos h
theorem stp_t {p x:DS} (h:x.1=1\/x.1=-1):stp p x=(nxH p.1 x.1,p.2):=by
 have:¬ x.1=0:=by omega
 unfold stp; rw [if_neg this,if_pos h]
theorem stp_n {p x:DS} (h0:¬ x.1=0) (h1:¬ x.1=1) (h2:¬ x.1=-1):stp p x=p:=by
 unfold stp; rw [if_neg h0,if_neg (by omega)]
theorem stepped_fn (p x:DS):Fn Tryz.prog 74 [⟨tStep,p⟩,⟨tStep,x⟩] false [⟨tStep,stp p x⟩]:=by
 obtain ⟨h,p⟩:=p
 obtain ⟨t,q⟩:=x
 have c1:=implNextHeading_fn h t
 by_cases h0:t=0
 ·subst h0
  rw [stp_0 rfl]
  refine fe Tryz.func74 Tryz.ntmps74 Tryz.results74 fun hwf=>?_
  try simp (maxSteps:=9^9) only[go_sem]
 ·by_cases h1:t=1
  ·subst h1
   rw [stp_t (.inl rfl)]
   refine fe Tryz.func74 Tryz.ntmps74 Tryz.results74 fun hwf=>?_
   try simp (maxSteps:=9^9) only[go_sem]
   repeat refine AI ?_
   refine cw c1 ?_
   try simp (maxSteps:=9^9) only[go_sem]
  ·by_cases h2:t=-1
   ·subst h2
    rw [stp_t (.inr rfl)]
    refine fe Tryz.func74 Tryz.ntmps74 Tryz.results74 fun hwf=>?_
    try simp (maxSteps:=9^9) only[go_sem]
    repeat refine AI ?_
    refine cw c1 ?_
    try simp (maxSteps:=9^9) only[go_sem]
   ·rw [stp_n h0 h1 h2]
    refine fe Tryz.func74 Tryz.ntmps74 Tryz.results74 fun hwf=>?_
    try simp (maxSteps:=9^9) only[go_sem,h0,h1,h2]
abbrev DV:Type:=Int × Int
def inB (k:Int) (v:DV):Bool:=decide (-k<=v.1/\v.1<=k) && decide (-k<=v.2/\v.2<=k)
def okV (v:DV):Bool:=inB 1000 v
theorem okV_b {v:DV} (h:okV v=true):-1000<=v.1/\v.1<=1000/\-1000<=v.2/\v.2<=1000:=by
 unfold okV inB at h
 rw [Bool.and_eq_true,decide_eq_true_iff,decide_eq_true_iff] at h
 omega
theorem isVec_fn (v:DV):Fn Tryz.prog 153 [⟨tVec,v⟩] false [⟨.bool,okV v⟩]:=by
 have c1:=within_fn v.1 (-1000) 1000
 have c2:=within_fn v.2 (-1000) 1000
 unfold okV inB
 cases h:decide (-1000<=v.1/\v.1<=1000)<;>rw [h] at c1
 ·refine fe Tryz.func153 Tryz.ntmps153 Tryz.results153 fun hwf=>?_
  try simp (maxSteps:=9^9) only[go_sem]
  repeat refine AI ?_
  refine cw c1 ?_
  try simp (maxSteps:=9^9) only[go_sem]
 ·refine fe Tryz.func153 Tryz.ntmps153 Tryz.results153 fun hwf=>?_
  try simp (maxSteps:=9^9) only[go_sem]
  repeat refine AI ?_
  refine cw c1 ?_
  try simp (maxSteps:=9^9) only[go_sem]
  repeat refine AI ?_
  refine cw c2 ?_
  try simp (maxSteps:=9^9) only[go_sem]
theorem IsValidVec_fn (v:DV):Fn Tryz.prog 84 [⟨tVec,v⟩] false [⟨.bool,okV v⟩]:=by
 have c1:=l01In_fn v.1 (-1000) 1000
 have c2:=l01In_fn v.2 (-1000) 1000
 unfold okV inB
 cases h:decide (-1000<=v.1/\v.1<=1000)<;>rw [h] at c1
 ·refine fe Tryz.func84 Tryz.ntmps84 Tryz.results84 fun hwf=>?_
  try simp (maxSteps:=9^9) only[go_sem]
  repeat refine AI ?_
  refine cw c1 ?_
  try simp (maxSteps:=9^9) only[go_sem]
 ·refine fe Tryz.func84 Tryz.ntmps84 Tryz.results84 fun hwf=>?_
  try simp (maxSteps:=9^9) only[go_sem]
  repeat refine AI ?_
  refine cw c1 ?_
  try simp (maxSteps:=9^9) only[go_sem]
  repeat refine AI ?_
  refine cw c2 ?_
  try simp (maxSteps:=9^9) only[go_sem]
theorem mul_bd {x y:Int} (h1:-2000<=x) (h2:x<=2000) (h3:-2000<=y) (h4:y<=2000):-4000000<=x * y/\x * y<=4000000:=by
 have e1:0<=(2000 - x) * (2000 - y):=Int.mul_nonneg (by omega) (by omega)
 have e2:0<=(2000+x) * (2000+y):=Int.mul_nonneg (by omega) (by omega)
 have e3:0<=(2000 - x) * (2000+y):=Int.mul_nonneg (by omega) (by omega)
 have e4:0<=(2000+x) * (2000 - y):=Int.mul_nonneg (by omega) (by omega)
 simp only [Int.sub_mul,Int.add_mul,Int.mul_sub,Int.mul_add] at e1 e2 e3 e4
 omega
def trn (a b c:DV):Int:=(b.1 - a.1) * (c.2 - a.2) - (b.2 - a.2) * (c.1 - a.1)
theorem turn_fn (a b c:DV) (ha:okV a=true) (hb:okV b=true) (hc:okV c=true):Fn Tryz.prog 172 [⟨tVec,a⟩,⟨tVec,b⟩,⟨tVec,c⟩] false [⟨.int,trn a b c⟩]:=by
 have ha:=okV_b ha; have hb:=okV_b hb; have hc:=okV_b hc
 have m1:=mul_bd (x:=b.1 - a.1) (y:=c.2 - a.2) (by omega) (by omega) (by omega) (by omega)
 have m2:=mul_bd (x:=b.2 - a.2) (y:=c.1 - a.1) (by omega) (by omega) (by omega) (by omega)
 unfold trn
 refine fe Tryz.func172 Tryz.ntmps172 Tryz.results172 fun hwf=>?_
 try simp (maxSteps:=9^9) only[go_sem]
 all_goals repeat refine AI ?_
 all_goals first|kernel_rfl|omega|rfl
def trq (a b c:DV):Int:=if okV a && okV b && okV c then trn a b c else 0
theorem Turn_fn (a b c:DV):Fn Tryz.prog 130 [⟨tVec,a⟩,⟨tVec,b⟩,⟨tVec,c⟩] false [⟨.int,trq a b c⟩]:=by
 have c1:=IsValidVec_fn a
 have c2:=IsValidVec_fn b
 have c3:=IsValidVec_fn c
 unfold trq
 cases ha:okV a<;>rw [ha] at c1
 ·refine fe Tryz.func130 Tryz.ntmps130 Tryz.results130 fun hwf=>?_
  try simp (maxSteps:=9^9) only[go_sem]
  repeat refine AI ?_
  refine cw c1 ?_
  try simp (maxSteps:=9^9) only[go_sem]
 ·cases hb:okV b<;>rw [hb] at c2
  ·refine fe Tryz.func130 Tryz.ntmps130 Tryz.results130 fun hwf=>?_
   try simp (maxSteps:=9^9) only[go_sem]
   repeat refine AI ?_
   refine cw c1 ?_
   try simp (maxSteps:=9^9) only[go_sem]
   repeat refine AI ?_
   refine cw c2 ?_
   try simp (maxSteps:=9^9) only[go_sem]
  ·cases hc:okV c<;>rw [hc] at c3
   ·refine fe Tryz.func130 Tryz.ntmps130 Tryz.results130 fun hwf=>?_
    try simp (maxSteps:=9^9) only[go_sem]
    repeat refine AI ?_
    refine cw c1 ?_
    try simp (maxSteps:=9^9) only[go_sem]
    repeat refine AI ?_
    refine cw c2 ?_
    try simp (maxSteps:=9^9) only[go_sem]
    repeat refine AI ?_
    refine cw c3 ?_
    try simp (maxSteps:=9^9) only[go_sem]
   ·have ha:=okV_b ha; have hb:=okV_b hb; have hc:=okV_b hc
    have m1:=mul_bd (x:=b.1 - a.1) (y:=c.2 - a.2) (by omega) (by omega) (by omega) (by omega)
    have m2:=mul_bd (x:=b.2 - a.2) (y:=c.1 - a.1) (by omega) (by omega) (by omega) (by omega)
    unfold trn
    refine fe Tryz.func130 Tryz.ntmps130 Tryz.results130 fun hwf=>?_
    try simp (maxSteps:=9^9) only[go_sem]
    repeat refine AI ?_
    refine cw c1 ?_
    try simp (maxSteps:=9^9) only[go_sem]
    repeat refine AI ?_
    refine cw c2 ?_
    try simp (maxSteps:=9^9) only[go_sem]
    repeat refine AI ?_
    refine cw c3 ?_
    try simp (maxSteps:=9^9) only[go_sem]
    all_goals repeat refine AI ?_
    all_goals first|kernel_rfl|omega|rfl
theorem indexFunc_vec_fn (F:FuncId) (p:DV->Bool) (hF:∀ x:DV,Fn Tryz.prog F [⟨tVec,x⟩] false [⟨.bool,p x⟩]) (l:List DV):Fn Tryz.prog 171 [⟨.slice tVec,l⟩,⟨.cst (.fn F),()⟩] false [⟨.int,ixf (t:=tVec) p l⟩]:=by
 refine fe Tryz.func171 Tryz.ntmps171 Tryz.results171 fun hwf=>?_
 have hl:l.length<=9223372036854775807:=(hwf ⟨.slice tVec,l⟩ (by simp)).1
 try simp (maxSteps:=9^9) only[go_sem]
 refine LoopG.intro _ _ _ (fun i:Nat=>⟨[(0,.sl tVec l),(1,.sc (.func (.func F) #[] #[])),(7,.sc (.int .i64 l.length)),(8,.sc (.int .i64 i))],[]⟩) (fun i=>∀ j < i,j < l.length->p (nth (t:=tVec) l j)=false) (fun i=>l.length - i) 0 ?_ (fun j h=>by simp at h) ?_
 ·exact WK
 ·rintro i h2
  try simp (maxSteps:=9^9) only[go_sem]
  refine CondW_dec (fun h3=>?_) (fun h3=>?_)
  ·try simp (maxSteps:=9^9) only[go_sem]
   repeat refine AI ?_
   repeat refine AI ?_
   refine cw (hF (nth (t:=tVec) l i)) ?_
   try simp (maxSteps:=9^9) only[go_sem]
   refine CondW_b (fun h4=>?_) (fun h4=>?_)
   ·try simp (maxSteps:=9^9) only[go_sem]
    exact (ixf_at (by omega) h4 (fun j hj=>h2 j hj (by omega))).symm
   ·try simp (maxSteps:=9^9) only[go_sem]
    repeat refine AI ?_
    refine LoopK.mk (i+1) ?_ (fun j hj hl=>?_) (by omega)
    ·exact WK
    ·by_cases hj2:j < i
     ·exact h2 j hj2 hl
     ·rw [show j=i by omega]; exact h4
  ·try simp (maxSteps:=9^9) only[go_sem]
   exact (ixf_none fun j hj=>h2 j (by omega) hj).symm
theorem containsFunc_vec_fn (F:FuncId) (p:DV->Bool) (hF:∀ x:DV,Fn Tryz.prog F [⟨tVec,x⟩] false [⟨.bool,p x⟩]) (l:List DV):Fn Tryz.prog 149 [⟨.slice tVec,l⟩,⟨.cst (.fn F),()⟩] false [⟨.bool,l.any p⟩]:=by
 refine fe Tryz.func149 Tryz.ntmps149 Tryz.results149 fun hwf=>?_
 try simp (maxSteps:=9^9) only[go_sem]
 repeat refine AI ?_
 refine cw (indexFunc_vec_fn F p hF l) ?_
 try simp (maxSteps:=9^9) only[go_sem]
 exact ixf_any
theorem areVecsC_fn (v:DV):Fn Tryz.prog 152 [⟨tVec,v⟩] false [⟨.bool,!okV v⟩]:=by
 refine fe Tryz.func152 Tryz.ntmps152 Tryz.results152 fun hwf=>?_
 try simp (maxSteps:=9^9) only[go_sem]
 repeat refine AI ?_
 refine cw (isVec_fn v) ?_
 try simp (maxSteps:=9^9) only[go_sem]
theorem areVecs_fn (l:List DV):Fn Tryz.prog 116 [⟨.slice tVec,l⟩] false [⟨.bool,!(l.any fun v=>!okV v)⟩]:=by
 refine fe Tryz.func116 Tryz.ntmps116 Tryz.results116 fun hwf=>?_
 try simp (maxSteps:=9^9) only[go_sem]
 repeat refine AI ?_
 refine cw (containsFunc_vec_fn _ _ areVecsC_fn l) ?_
 try simp (maxSteps:=9^9) only[go_sem]
def nxt (n i:Nat):Int:=((i:Int)+1) % (n:Int)
def cornOK (l:List DV) (i k:Nat):Prop:=¬ (k:Int)=i->¬ (k:Int)=nxt l.length i->0 < trn (nth (t:=tVec) l i) (nth (t:=tVec) l (nxt l.length i).toNat) (nth (t:=tVec) l k)
def polyP (l:List DV):Prop:=(3<=(l.length:Int)/\(l.length:Int)<=16)/\(∀ v ∈ l,okV v=true)/\∀ i k,i < l.length->k < l.length->cornOK l i k
noncomputable def polyB (l:List DV):Bool:=@decide (polyP l) (Classical.propDecidable _)
theorem polyB_t {l:List DV} (h:polyP l):polyB l=true:=@decide_eq_true _ (Classical.propDecidable _) h
theorem polyB_f {l:List DV} (h:¬ polyP l):polyB l=false:=@decide_eq_false _ (Classical.propDecidable _) h
theorem any_okV {l:List DV} (h:(l.any fun v=>!okV v)=false):∀ v ∈ l,okV v=true:=by
 intro v hv
 rw [List.any_eq_false] at h
 simpa using h v hv
theorem nxt_rng {n i:Nat} (h:0 < n):0<=nxt n i/\nxt n i < n:=⟨Int.emod_nonneg _ (by omega),Int.emod_lt_of_pos _ (by omega)⟩
theorem nth_mem {l:List DV} {i:Nat} (h:i < l.length):nth (t:=tVec) l i ∈ l:=by rw [nth_lt h]; exact List.getElem_mem h
theorem implIsPolygon_fn (l:List DV):Fn Tryz.prog 151 [⟨.slice tVec,l⟩] false [⟨.bool,polyB l⟩]:=by
 have c1:=within_fn l.length 3 16
 have c2:=areVecs_fn l
 by_cases h1:3<=(l.length:Int)/\(l.length:Int)<=16
 ·rw [decide_eq_true h1] at c1
  cases h2:l.any fun v=>!okV v<;>rw [h2] at c2
  ·have hok:=any_okV h2
   have hN:0 < l.length:=by omega
   refine fe Tryz.func151 Tryz.ntmps151 Tryz.results151 fun hwf=>?_
   try simp (maxSteps:=9^9) only[go_sem]
   repeat refine AI ?_
   refine cw c1 ?_
   try simp (maxSteps:=9^9) only[go_sem]
   repeat refine AI ?_
   refine cw c2 ?_
   try simp (maxSteps:=9^9) only[go_sem]
   refine LoopG.intro _ _ _ (fun i:Nat=>⟨[(0,.sl tVec l),(3,.sc (.int .i64 l.length)),(19,.sl tVec l),(20,.sc (.int .i64 l.length)),(21,.sc (.int .i64 i))],[]⟩) (fun i=>∀ i' k,i' < i->i' < l.length->k < l.length->cornOK l i' k) (fun i=>l.length - i) 0 ?_ (fun i' k h=>absurd h (Nat.not_lt_zero _)) ?_
   ·exact WK
   ·rintro i hi
    have hr:=nxt_rng (i:=i) hN
    unfold nxt at hr
    try simp (maxSteps:=9^9) only[go_sem]
    refine CondW_dec (fun hA=>?_) (fun hA=>?_)
    ·try simp (maxSteps:=9^9) only[go_sem]
     repeat refine AI ?_
     refine RemW.pos (by omega) (by omega) ?_
     try simp (maxSteps:=9^9) only[go_sem]
     repeat refine AI ?_
     refine LoopG.intro _ _ _ (fun k:Nat=>⟨[(0,.sl tVec l),(3,.sc (.int .i64 l.length)),(19,.sl tVec l),(20,.sc (.int .i64 l.length)),(21,.sc (.int .i64 i)),(4,.sc (.int .i64 i)),(5,.ptr 0 0),(6,.ptr 1 0),(33,.sl tVec l),(34,.sc (.int .i64 l.length)),(35,.sc (.int .i64 k))],[(1,.box [.sc (.int .i64 (nth (t:=tVec) l (nxt l.length i).toNat).1),.sc (.int .i64 (nth (t:=tVec) l (nxt l.length i).toNat).2)]),(0,.box [.sc (.int .i64 (nth (t:=tVec) l i).1),.sc (.int .i64 (nth (t:=tVec) l i).2)])]⟩) (fun k=>∀ k',k' < k->k' < l.length->cornOK l i k') (fun k=>l.length - k) 0 ?_ (fun k h=>absurd h (Nat.not_lt_zero _)) ?_
     ·exact WK
     ·rintro k hk
      have hv:=turn_fn (nth (t:=tVec) l i) (nth (t:=tVec) l (nxt l.length i).toNat) (nth (t:=tVec) l k)
      have hi3:i < l.length:=by omega
      have oi:=hok _ (nth_mem hi3)
      have on:=hok _ (nth_mem (l:=l) (i:=(nxt l.length i).toNat) (by unfold nxt; omega))
      try simp (maxSteps:=9^9) only[go_sem]
      refine CondW_dec (fun hB=>?_) (fun hB=>?_)
      ·have hv:=hv oi on (hok _ (nth_mem (by omega)))
       have hgo:cornOK l i k->∀ k',k' < k+1->k' < l.length->cornOK l i k':=fun h k' h1 h2=>by
        by_cases h3:k' < k
        ·exact hk k' h3 h2
        ·rw [show k'=k by omega]; exact h
       by_cases e1:(k:Int)=i
       ·have d1:=decide_eq_true e1
        try simp (maxSteps:=9^9) only[go_sem,d1]
        repeat refine AI ?_
        refine LoopK.mk (k+1) ?_ (hgo fun h=>absurd e1 h) (by omega)
        exact WK
       ·have d1:=decide_eq_false e1
        by_cases e2:(k:Int)=((i:Int)+1) % (l.length:Int)
        ·have d2:=decide_eq_true e2
         try simp (maxSteps:=9^9) only[go_sem,d1]
         repeat refine AI ?_
         refine RemW.pos (by omega) (by omega) ?_
         try simp (maxSteps:=9^9) only[go_sem,d2]
         repeat refine AI ?_
         refine LoopK.mk (k+1) ?_ (hgo fun _ h=>absurd e2 h) (by omega)
         exact WK
        ·have d2:=decide_eq_false e2
         try simp (maxSteps:=9^9) only[go_sem,d1]
         repeat refine AI ?_
         refine RemW.pos (by omega) (by omega) ?_
         try simp (maxSteps:=9^9) only[go_sem,d2]
         repeat refine AI ?_
         refine cw hv ?_
         try simp (maxSteps:=9^9) only[go_sem]
         refine CondW_dec (fun e3=>?_) (fun e3=>?_)
         ·have:¬ polyP l:=fun h=>by
           have:=h.2.2 i k (by omega) (by omega) e1 e2
           omega
          rw [polyB_f this]
          try simp (maxSteps:=9^9) only[go_sem]
         ·try simp (maxSteps:=9^9) only[go_sem]
          repeat refine AI ?_
          refine LoopK.mk (k+1) ?_ (hgo fun _ _=>by omega) (by omega)
          exact WK
      ·try simp (maxSteps:=9^9) only[go_sem]
       repeat refine AI ?_
       refine LoopK.mk (i+1) ?_ (fun i' k' h1 h2 h3=>?_) (by omega)
       ·exact WK
       ·by_cases h4:i' < i
        ·exact hi i' k' h4 h2 h3
        ·rw [show i'=i by omega]; exact hk k' (by omega) h3
    ·have:polyP l:=⟨h1,hok,fun i' k h3 h4=>hi i' k (by omega) h3 h4⟩
     rw [polyB_t this]
     try simp (maxSteps:=9^9) only[go_sem]
  ·have:¬ polyP l:=fun h=>by
    have:=h.2.1
    rw [List.any_eq_true] at h2
    obtain ⟨v,hv,h3⟩:=h2
    rw [this v hv] at h3
    cases h3
   rw [polyB_f this]
   refine fe Tryz.func151 Tryz.ntmps151 Tryz.results151 fun hwf=>?_
   try simp (maxSteps:=9^9) only[go_sem]
   repeat refine AI ?_
   refine cw c1 ?_
   try simp (maxSteps:=9^9) only[go_sem]
   repeat refine AI ?_
   refine cw c2 ?_
   try simp (maxSteps:=9^9) only[go_sem]
 ·rw [decide_eq_false h1] at c1
  have:¬ polyP l:=fun h=>h1 h.1
  rw [polyB_f this]
  refine fe Tryz.func151 Tryz.ntmps151 Tryz.results151 fun hwf=>?_
  try simp (maxSteps:=9^9) only[go_sem]
  repeat refine AI ?_
  refine cw c1 ?_
  try simp (maxSteps:=9^9) only[go_sem]
def specOK (l:List DV) (i k:Nat):Prop:=okV (nth (t:=tVec) l k)=true/\(¬ (k:Int)=i->¬ (k:Int)=nxt l.length i->0 < trq (nth (t:=tVec) l i) (nth (t:=tVec) l (nxt l.length i).toNat) (nth (t:=tVec) l k))
theorem specOK_of {l:List DV} (h:polyP l) {i k:Nat} (hi:i < l.length) (hk:k < l.length):specOK l i k:=by
 have hr:=nxt_rng (n:=l.length) (i:=i) (by omega)
 refine ⟨h.2.1 _ (nth_mem hk),fun h1 h2=>?_⟩
 have h3:=h.2.2 i k hi hk h1 h2
 unfold trq
 rw [h.2.1 _ (nth_mem hi),h.2.1 _ (nth_mem hk),h.2.1 _ (nth_mem (i:=(nxt l.length i).toNat) (by omega))]
 exact h3
theorem polyP_of {l:List DV} (h0:3<=(l.length:Int)/\(l.length:Int)<=16) (h:∀ i k,i < l.length->k < l.length->specOK l i k):polyP l:=by
 have hv:∀ k,k < l.length->okV (nth (t:=tVec) l k)=true:=fun k hk=>(h 0 k (by omega) hk).1
 refine ⟨h0,fun v hm=>?_,fun i k hi hk h1 h2=>?_⟩
 ·obtain ⟨k,hk,rfl⟩:=List.getElem_of_mem hm
  have:=hv k hk
  rw [nth_lt hk] at this
  exact this
 ·have hr:=nxt_rng (n:=l.length) (i:=i) (by omega)
  have h3:=(h i k hi hk).2 h1 h2
  unfold trq at h3
  rw [hv i hi,hv k hk,hv (nxt l.length i).toNat (by omega)] at h3
  exact h3
theorem specIsPolygon_fn (l:List DV):Fn Tryz.prog 83 [⟨.slice tVec,l⟩] false [⟨.bool,polyB l⟩]:=by
 have c1:=l01In_fn l.length 3 16
 by_cases h1:3<=(l.length:Int)/\(l.length:Int)<=16
 ·rw [decide_eq_true h1] at c1
  have hN:0 < l.length:=by omega
  refine fe Tryz.func83 Tryz.ntmps83 Tryz.results83 fun hwf=>?_
  try simp (maxSteps:=9^9) only[go_sem]
  repeat refine AI ?_
  refine cw c1 ?_
  try simp (maxSteps:=9^9) only[go_sem]
  refine LoopG.intro _ _ _ (fun i:Nat=>⟨[(0,.sl tVec l),(3,.sc (.int .i64 l.length)),(14,.sl tVec l),(15,.sc (.int .i64 l.length)),(16,.sc (.int .i64 i))],[]⟩) (fun i=>∀ i' k,i' < i->i' < l.length->k < l.length->specOK l i' k) (fun i=>l.length - i) 0 ?_ (fun i' k h=>absurd h (Nat.not_lt_zero _)) ?_
  ·exact WK
  ·rintro i hi
   have hr:=nxt_rng (i:=i) hN
   unfold nxt at hr
   try simp (maxSteps:=9^9) only[go_sem]
   refine CondW_dec (fun hA=>?_) (fun hA=>?_)
   ·try simp (maxSteps:=9^9) only[go_sem]
    repeat refine AI ?_
    refine RemW.pos (by omega) (by omega) ?_
    try simp (maxSteps:=9^9) only[go_sem]
    repeat refine AI ?_
    refine LoopG.intro _ _ _ (fun k:Nat=>⟨[(0,.sl tVec l),(3,.sc (.int .i64 l.length)),(14,.sl tVec l),(15,.sc (.int .i64 l.length)),(16,.sc (.int .i64 i)),(4,.sc (.int .i64 i)),(5,.ptr 0 0),(6,.ptr 1 0),(28,.sl tVec l),(29,.sc (.int .i64 l.length)),(30,.sc (.int .i64 k))],[(1,.box [.sc (.int .i64 (nth (t:=tVec) l (nxt l.length i).toNat).1),.sc (.int .i64 (nth (t:=tVec) l (nxt l.length i).toNat).2)]),(0,.box [.sc (.int .i64 (nth (t:=tVec) l i).1),.sc (.int .i64 (nth (t:=tVec) l i).2)])]⟩) (fun k=>∀ k',k' < k->k' < l.length->specOK l i k') (fun k=>l.length - k) 0 ?_ (fun k h=>absurd h (Nat.not_lt_zero _)) ?_
    ·exact WK
    ·rintro k hk
     have hv:=Turn_fn (nth (t:=tVec) l i) (nth (t:=tVec) l (nxt l.length i).toNat) (nth (t:=tVec) l k)
     have hw:=IsValidVec_fn (nth (t:=tVec) l k)
     try simp (maxSteps:=9^9) only[go_sem]
     refine CondW_dec (fun hB=>?_) (fun hB=>?_)
     ·have hgo:specOK l i k->∀ k',k' < k+1->k' < l.length->specOK l i k':=fun h k' h1 h2=>by
       by_cases h3:k' < k
       ·exact hk k' h3 h2
       ·rw [show k'=k by omega]; exact h
      cases e0:okV (nth (t:=tVec) l k)<;>rw [e0] at hw
      ·have:¬ polyP l:=fun h=>by
        have:=h.2.1 _ (nth_mem (l:=l) (i:=k) (by omega))
        rw [e0] at this; cases this
       rw [polyB_f this]
       try simp (maxSteps:=9^9) only[go_sem]
       repeat refine AI ?_
       refine cw hw ?_
       try simp (maxSteps:=9^9) only[go_sem]
      ·by_cases e1:(k:Int)=i
       ·have d1:=decide_eq_true e1
        try simp (maxSteps:=9^9) only[go_sem]
        repeat refine AI ?_
        refine cw hw ?_
        try simp (maxSteps:=9^9) only[go_sem]
        try simp (maxSteps:=9^9) only[go_sem,d1]
        repeat refine AI ?_
        refine LoopK.mk (k+1) ?_ (hgo ⟨e0,fun h=>absurd e1 h⟩) (by omega)
        exact WK
       ·have d1:=decide_eq_false e1
        by_cases e2:(k:Int)=((i:Int)+1) % (l.length:Int)
        ·have d2:=decide_eq_true e2
         try simp (maxSteps:=9^9) only[go_sem]
         repeat refine AI ?_
         refine cw hw ?_
         try simp (maxSteps:=9^9) only[go_sem]
         try simp (maxSteps:=9^9) only[go_sem,d1]
         repeat refine AI ?_
         refine RemW.pos (by omega) (by omega) ?_
         try simp (maxSteps:=9^9) only[go_sem,d2]
         repeat refine AI ?_
         refine LoopK.mk (k+1) ?_ (hgo ⟨e0,fun _ h=>absurd e2 h⟩) (by omega)
         exact WK
        ·have d2:=decide_eq_false e2
         try simp (maxSteps:=9^9) only[go_sem]
         repeat refine AI ?_
         refine cw hw ?_
         try simp (maxSteps:=9^9) only[go_sem]
         try simp (maxSteps:=9^9) only[go_sem,d1]
         repeat refine AI ?_
         refine RemW.pos (by omega) (by omega) ?_
         try simp (maxSteps:=9^9) only[go_sem,d2]
         repeat refine AI ?_
         refine cw hv ?_
         try simp (maxSteps:=9^9) only[go_sem]
         refine CondW_dec (fun e3=>?_) (fun e3=>?_)
         ·have:¬ polyP l:=fun h=>by
           have:=(specOK_of h (i:=i) (k:=k) (by omega) (by omega)).2 e1 e2
           omega
          rw [polyB_f this]
          try simp (maxSteps:=9^9) only[go_sem]
         ·try simp (maxSteps:=9^9) only[go_sem]
          repeat refine AI ?_
          refine LoopK.mk (k+1) ?_ (hgo ⟨e0,fun _ _=>by omega⟩) (by omega)
          exact WK
     ·try simp (maxSteps:=9^9) only[go_sem]
      repeat refine AI ?_
      refine LoopK.mk (i+1) ?_ (fun i' k' h1 h2 h3=>?_) (by omega)
      ·exact WK
      ·by_cases h4:i' < i
       ·exact hi i' k' h4 h2 h3
       ·rw [show i'=i by omega]; exact hk k' (by omega) h3
   ·have:polyP l:=polyP_of h1 fun i' k h3 h4=>hi i' k (by omega) h3 h4
    rw [polyB_t this]
    try simp (maxSteps:=9^9) only[go_sem]
 ·rw [decide_eq_false h1] at c1
  have:¬ polyP l:=fun h=>h1 h.1
  rw [polyB_f this]
  refine fe Tryz.func83 Tryz.ntmps83 Tryz.results83 fun hwf=>?_
  try simp (maxSteps:=9^9) only[go_sem]
  repeat refine AI ?_
  refine cw c1 ?_
  try simp (maxSteps:=9^9) only[go_sem]
def ltV (a b:DV):Prop:=a.1 < b.1\/a.1=b.1/\a.2 < b.2
instance (a b:DV):Decidable (ltV a b):=by unfold ltV; infer_instance
theorem ltV_irrefl (a:DV):¬ ltV a a:=by unfold ltV; omega
theorem ltV_trans {a b c:DV} (h1:ltV a b) (h2:ltV b c):ltV a c:=by unfold ltV at *; omega
theorem ltV_tri (a b:DV):ltV a b\/a=b\/ltV b a:=by
 obtain ⟨a1,a2⟩:=a
 obtain ⟨b1,b2⟩:=b
 unfold ltV
 simp only [Prod.mk.injEq]
 omega
theorem ltV_asymm {a b:DV} (h:ltV a b):¬ ltV b a:=fun h2=>ltV_irrefl _ (ltV_trans h h2)
theorem srt_unique:∀ {l m:List DV},l.Pairwise ltV->m.Pairwise ltV->(∀ x,x ∈ l ↔ x ∈ m)->l=m
 | [],[],_,_,_=>rfl
 | [],b :: m,_,_,h=>absurd ((h b).2 List.mem_cons_self) (by simp)
 | a :: l,[],_,_,h=>absurd ((h a).1 List.mem_cons_self) (by simp)
 | a :: l,b :: m,h1,h2,h=>by
  rw [List.pairwise_cons] at h1 h2
  have hab:a=b:=by
   rcases List.mem_cons.1 ((h a).1 List.mem_cons_self) with e|e
   ·exact e
   ·rcases List.mem_cons.1 ((h b).2 List.mem_cons_self) with e2|e2
    ·exact e2.symm
    ·exact absurd (ltV_trans (h1.1 b e2) (h2.1 a e)) (ltV_irrefl _)
  subst hab
  refine congrArg (a :: ·) (srt_unique h1.2 h2.2 fun x=>⟨fun hx=>?_,fun hx=>?_⟩)
  ·rcases List.mem_cons.1 ((h x).1 (List.mem_cons_of_mem _ hx)) with e|e
   ·subst e; exact absurd (h1.1 _ hx) (ltV_irrefl _)
   ·exact e
  ·rcases List.mem_cons.1 ((h x).2 (List.mem_cons_of_mem _ hx)) with e|e
   ·subst e; exact absurd (h2.1 _ hx) (ltV_irrefl _)
   ·exact e
def cmpD:List DV->List DV
 | []=>[]
 | [a]=>[a]
 | a :: b :: l=>if a=b then cmpD (b :: l) else a :: cmpD (b :: l)
theorem cmpD_mem:∀ {l:List DV} {x:DV},x ∈ cmpD l ↔ x ∈ l
 | [],x=>by simp [cmpD]
 | [a],x=>by simp [cmpD]
 | a :: b :: l,x=>by
  have ih:=cmpD_mem (l:=b :: l) (x:=x)
  unfold cmpD
  split
  ·rename_i h; subst h; rw [ih]; simp
  ·rw [List.mem_cons,ih,List.mem_cons,List.mem_cons,List.mem_cons]
theorem cmpD_len:∀ {l:List DV},(cmpD l).length<=l.length
 | []=>by simp [cmpD]
 | [a]=>by simp [cmpD]
 | a :: b :: l=>by
  have ih:=cmpD_len (l:=b :: l)
  unfold cmpD
  split<;>simp only [List.length_cons] at ih ⊢<;>omega
theorem cmpD_srt:∀ {l:List DV},l.Pairwise (fun a b=>¬ ltV b a)->(cmpD l).Pairwise ltV
 | [],_=>by simp [cmpD]
 | [a],_=>by simp [cmpD]
 | a :: b :: l,h=>by
  rw [List.pairwise_cons] at h
  have ih:=cmpD_srt h.2
  unfold cmpD
  split
  ·exact ih
  ·rename_i hne
   refine List.pairwise_cons.2 ⟨fun x hx=>?_,ih⟩
   rw [cmpD_mem] at hx
   have hb:¬ ltV b a:=h.1 b List.mem_cons_self
   have hab:ltV a b:=by
    rcases ltV_tri a b with h|h|h
    ·exact h
    ·exact absurd h hne
    ·exact absurd h hb
   rcases List.mem_cons.1 hx with rfl|hx
   ·exact hab
   ·rcases ltV_tri b x with h3|h3|h3
    ·exact ltV_trans hab h3
    ·exact h3 ▸ hab
    ·exact absurd h3 ((List.pairwise_cons.1 h.2).1 x hx)
def cfV (a b:DV):Int:=if a.1=b.1 then a.2 - b.2 else a.1 - b.1
theorem cfV_lt (a b:DV):cfV a b < 0 ↔ ltV a b:=by
 unfold cfV ltV
 split<;>omega
def leB (a b:DV):Bool:=!decide (cfV b a < 0)
theorem leB_iff (a b:DV):leB a b=true ↔ ¬ ltV b a:=by
 unfold leB
 rw [Bool.not_eq_true',decide_eq_false_iff_not,cfV_lt]
def srtD (l:List DV):List DV:=cmpD (l.mergeSort leB)
theorem srtD_mem {l:List DV} {x:DV}:x ∈ srtD l ↔ x ∈ l:=by
 unfold srtD
 rw [cmpD_mem,List.mem_mergeSort]
theorem srtD_srt (l:List DV):(srtD l).Pairwise ltV:=by
 refine cmpD_srt ?_
 have h:=List.pairwise_mergeSort (le:=leB) (fun a b c h1 h2=>by
  rw [leB_iff] at *
  intro h
  rcases ltV_tri b a with h3|h3|h3
  ·exact h1 h3
  ·subst h3; exact h2 h
  ·exact h2 (ltV_trans h h3)) (fun a b=>by
  rcases ltV_tri a b with h|h|h
  ·rw [Bool.or_eq_true]; exact .inl ((leB_iff a b).2 (ltV_asymm h))
  ·subst h; rw [Bool.or_eq_true]; exact .inl ((leB_iff a a).2 (ltV_irrefl _))
  ·rw [Bool.or_eq_true]; exact .inr ((leB_iff b a).2 (ltV_asymm h))) l
 exact h.imp fun {a b} h=>(leB_iff a b).1 h
theorem srtD_len (l:List DV):(srtD l).length<=l.length:=by
 unfold srtD
 have:=cmpD_len (l:=l.mergeSort leB)
 rw [List.length_mergeSort] at this
 exact this
theorem srtD_eq {l m:List DV} (h1:m.Pairwise ltV) (h2:∀ x,x ∈ m ↔ x ∈ l):m=srtD l:=srt_unique h1 (srtD_srt l) fun x=>by rw [h2,srtD_mem]
def insD (p:DV):List DV->List DV
 | []=>[p]
 | a :: l=>if ltV a p then a :: insD p l else if a=p then a :: l else p :: a :: l
theorem insD_mem {p x:DV}:∀ {l:List DV},x ∈ insD p l ↔ x=p\/x ∈ l
 | []=>by simp [insD]
 | a :: l=>by
  have ih:=insD_mem (p:=p) (x:=x) (l:=l)
  unfold insD
  split
  ·rw [List.mem_cons,ih,List.mem_cons]; constructor
   ·rintro (h|h|h)
    ·exact .inr (.inl h)
    ·exact .inl h
    ·exact .inr (.inr h)
   ·rintro (h|h|h)
    ·exact .inr (.inl h)
    ·exact .inl h
    ·exact .inr (.inr h)
  ·split
   ·rename_i h; subst h; simp
   ·simp
theorem insD_srt {p:DV}:∀ {l:List DV},l.Pairwise ltV->(insD p l).Pairwise ltV
 | [],_=>by simp [insD]
 | a :: l,h=>by
  have h':=h
  rw [List.pairwise_cons] at h
  unfold insD
  split
  ·rename_i hlt
   refine List.pairwise_cons.2 ⟨fun x hx=>?_,insD_srt h.2⟩
   rcases insD_mem.1 hx with rfl|hx
   ·exact hlt
   ·exact h.1 x hx
  ·split
   ·exact h'
   ·rename_i h1 h2
    have hp:ltV p a:=by
     rcases ltV_tri a p with h3|h3|h3
     ·exact absurd h3 h1
     ·exact absurd h3 h2
     ·exact h3
    refine List.pairwise_cons.2 ⟨fun x hx=>?_,h'⟩
    rcases List.mem_cons.1 hx with rfl|hx
    ·exact hp
    ·exact ltV_trans hp (h.1 x hx)
theorem insD_at {p:DV}:∀ {l:List DV} {i:Nat},i<=l.length->(∀ j,j < i->ltV (nth (t:=tVec) l j) p)->(i < l.length->¬ ltV (nth (t:=tVec) l i) p) →
  insD p l=if i < l.length/\nth (t:=tVec) l i=p then l else l.take i++p :: l.drop i
 | [],0,_,_,_=>by simp [insD]
 | [],i+1,h,_,_=>by simp at h
 | a :: l,0,_,_,h2=>by
  have h2:¬ ltV a p:=h2 (by simp)
  have e:nth (t:=tVec) (a :: l) 0=a:=rfl
  unfold insD
  rw [if_neg h2,e]
  by_cases h3:a=p
  ·rw [if_pos h3,if_pos ⟨by simp,h3⟩]
  ·rw [if_neg h3,if_neg fun h=>h3 h.2]; rfl
 | a :: l,i+1,hi,h1,h2=>by
  have e:∀ j,nth (t:=tVec) (a :: l) (j+1)=nth (t:=tVec) l j:=fun j=>by simp [nth]
  have h0:ltV a p:=h1 0 (by omega)
  have ih:=insD_at (p:=p) (l:=l) (i:=i) (by simp only [List.length_cons] at hi; omega) (fun j hj=>by rw [<-e]; exact h1 (j+1) (by omega)) (fun hj=>by rw [<-e]; exact h2 (by simp only [List.length_cons]; omega))
  unfold insD
  rw [if_pos h0,ih,e]
  by_cases h3:i < l.length/\nth (t:=tVec) l i=p
  ·rw [if_pos h3,if_pos ⟨by simp only [List.length_cons]; omega,h3.2⟩]
  ·rw [if_neg h3,if_neg fun h=>h3 ⟨by have:=h.1; simp only [List.length_cons] at this; omega,h.2⟩]; rfl
def srtI (l:List DV) (i:Nat):List DV:=(l.take i).foldl (fun s p=>insD p s) []
theorem srtI_step {l:List DV} {i:Nat} (h:i < l.length):srtI l (i+1)=insD (nth (t:=tVec) l i) (srtI l i):=by
 unfold srtI
 rw [nth_lt h,List.take_succ_eq_append_getElem h,List.foldl_append]; rfl
theorem ins_fold:∀ {l s:List DV},s.Pairwise ltV->(l.foldl (fun s p=>insD p s) s).Pairwise ltV/\∀ x,x ∈ l.foldl (fun s p=>insD p s) s ↔ x ∈ l\/x ∈ s
 | [],s,h=>⟨h,fun x=>by simp⟩
 | p :: l,s,h=>by
  obtain ⟨h1,h2⟩:=ins_fold (l:=l) (insD_srt (p:=p) h)
  refine ⟨h1,fun x=>?_⟩
  rw [List.foldl_cons,h2,insD_mem,List.mem_cons]
  constructor
  ·rintro (h|h|h)
   ·exact .inl (.inr h)
   ·exact .inl (.inl h)
   ·exact .inr h
  ·rintro ((h|h)|h)
   ·exact .inr (.inl h)
   ·exact .inl h
   ·exact .inr (.inr h)
theorem srtI_all (l:List DV):srtI l l.length=srtD l:=by
 unfold srtI
 rw [List.take_length]
 obtain ⟨h1,h2⟩:=ins_fold (l:=l) (s:=[]) List.Pairwise.nil
 exact srtD_eq h1 fun x=>by rw [h2]; simp
theorem insD_len {p:DV}:∀ {l:List DV},(insD p l).length<=l.length+1
 | []=>by simp [insD]
 | a :: l=>by
  have ih:=insD_len (p:=p) (l:=l)
  unfold insD
  split
  ·simp only [List.length_cons]; omega
  ·split<;>simp only [List.length_cons]<;>omega
theorem srtI_len (l:List DV):∀ i,(srtI l i).length<=i
 | 0=>by simp [srtI]
 | i+1=>by
  by_cases h:i < l.length
  ·rw [srtI_step h]
   have:=insD_len (p:=nth (t:=tVec) l i) (l:=srtI l i)
   have:=srtI_len l i
   omega
  ·have:srtI l (i+1)=srtI l i:=by
    unfold srtI; rw [List.take_of_length_le (by omega),List.take_of_length_le (by omega)]
   rw [this]
   have:=srtI_len l i
   omega
def popD (v:DV):List DV->List DV
 | b :: a :: l=>if trn a b v<=0 then popD v (a :: l) else b :: a :: l
 | l=>l
theorem popD_len {v:DV}:∀ {l:List DV},(popD v l).length<=l.length
 | []=>Nat.le_refl _
 | [a]=>Nat.le_refl _
 | b :: a :: l=>by
  unfold popD
  split
  ·exact Nat.le_trans popD_len (by simp)
  ·exact Nat.le_refl _
theorem popD_sub {v x:DV}:∀ {l:List DV},x ∈ popD v l->x ∈ l
 | [],h=>h
 | [a],h=>h
 | b :: a :: l,h=>by
  unfold popD at h
  split at h
  ·exact List.mem_cons_of_mem _ (popD_sub h)
  ·exact h
def chR (l:List DV):List DV:=l.foldl (fun c v=>v :: popD v c) []
def chRi (l:List DV) (i:Nat):List DV:=chR (l.take i)
theorem chRi_step {l:List DV} {i:Nat} (h:i < l.length):chRi l (i+1)=nth (t:=tVec) l i :: popD (nth (t:=tVec) l i) (chRi l i):=by
 unfold chRi chR
 rw [nth_lt h,List.take_succ_eq_append_getElem h,List.foldl_append]; rfl
theorem chRi_len (l:List DV):∀ i,(chRi l i).length<=i
 | 0=>by simp [chRi,chR]
 | i+1=>by
  by_cases h:i < l.length
  ·rw [chRi_step h,List.length_cons]
   have:=popD_len (v:=nth (t:=tVec) l i) (l:=chRi l i)
   have:=chRi_len l i
   omega
  ·have:chRi l (i+1)=chRi l i:=by
    unfold chRi; rw [List.take_of_length_le (by omega),List.take_of_length_le (by omega)]
   rw [this]
   have:=chRi_len l i
   omega
theorem chRi_mem {l:List DV} {x:DV}:∀ {i:Nat},x ∈ chRi l i->x ∈ l
 | 0,h=>by simp [chRi,chR] at h
 | i+1,h=>by
  by_cases hi:i < l.length
  ·rw [chRi_step hi] at h
   rcases List.mem_cons.1 h with rfl|h
   ·exact nth_mem hi
   ·exact chRi_mem (popD_sub h)
  ·have e:chRi l (i+1)=chRi l i:=by
    unfold chRi; rw [List.take_of_length_le (by omega),List.take_of_length_le (by omega)]
   rw [e] at h
   exact chRi_mem h
def chD (l:List DV):List DV:=(chR l).reverse.dropLast
def hullD (l:List DV):List DV:=if (srtD l).length < 2 then srtD l else chD (srtD l)++chD (srtD l).reverse
def rot1 (v:DV):DV:=(-v.2,v.1)
def rotN:Nat->DV->DV
 | 0,v=>v
 | n+1,v=>rot1 (rotN n v)
theorem okV_of {v:DV} (h1:-1000<=v.1) (h2:v.1<=1000) (h3:-1000<=v.2) (h4:v.2<=1000):okV v=true:=by
 unfold okV inB
 rw [Bool.and_eq_true,decide_eq_true_iff,decide_eq_true_iff]
 exact ⟨⟨h1,h2⟩,h3,h4⟩
theorem okV_rot {v:DV} (h:okV v=true):∀ n,okV (rotN n v)=true
 | 0=>h
 | n+1=>by
  have:=okV_b (okV_rot h n)
  show okV (rot1 (rotN n v))=true
  unfold rot1
  exact okV_of (by simp only; omega) (by simp only; omega) (by simp only; omega) (by simp only; omega)
theorem turnVec_fn (v:DV) (k:Int) (hv:okV v=true) (hk:0<=k/\k<=3):Fn Tryz.prog 117 [⟨tVec,v⟩,⟨.int,k⟩] false [⟨tVec,rotN k.toNat v⟩]:=by
 have e:(k % 4+4) % 4=k:=by omega
 refine fe Tryz.func117 Tryz.ntmps117 Tryz.results117 fun hwf=>?_
 try simp (maxSteps:=9^9) only[go_sem]
 refine RemW.pos (by omega) (by decide) ?_
 try simp (maxSteps:=9^9) only[go_sem]
 repeat refine AI ?_
 refine RemW.pos (by omega) (by decide) ?_
 rw [e]
 try simp (maxSteps:=9^9) only[go_sem]
 refine LoopG.intro _ _ _ (fun i:Nat=>⟨[(2,.ptr 0 0),(4,.ptr 1 0),(8,.sc (.int .i64 k)),(9,.sc (.int .i64 i))],[(1,.box [.sc (.int .i64 0),.sc (.int .i64 0)]),(0,.box [.sc (.int .i64 (rotN i v).1),.sc (.int .i64 (rotN i v).2)])]⟩) (fun i=>i<=k.toNat) (fun i=>k.toNat - i) 0 ?_ (Nat.zero_le _) ?_
 ·exact WK
 ·rintro i hi
  have hb:=okV_b (okV_rot hv i)
  have hst:rotN (i+1) v=(-(rotN i v).2,(rotN i v).1):=rfl
  generalize rotN i v=u at hb hst ⊢
  obtain ⟨b1,b2,b3,b4⟩:=hb
  try simp (maxSteps:=9^9) only[go_sem]
  refine CondW_dec (fun hA=>?_) (fun hA=>?_)
  ·try simp (maxSteps:=9^9) only[go_sem]
   repeat refine AI ?_
   refine LoopK.mk (i+1) ?_ (by omega) (by omega)
   rw [hst]
   exact WK
  ·rw [show k.toNat=i by omega]
   try simp (maxSteps:=9^9) only[go_sem]
   all_goals repeat refine AI ?_
   all_goals first|kernel_rfl|omega|rfl
def mapi (f:DV->DV) (l:List DV) (i:Nat):List DV:=(l.take i).map f
theorem mapi_step {f:DV->DV} {l:List DV} {i:Nat} (h:i < l.length):mapi f l (i+1)=mapi f l i++[f (nth (t:=tVec) l i)]:=by
 unfold mapi
 rw [List.take_succ_eq_append_getElem h,nth_lt h,List.map_append]
 rfl
theorem mapi_len {f:DV->DV} {l:List DV} {i:Nat} (h:i<=l.length):(mapi f l i).length=i:=by
 unfold mapi
 rw [List.length_map,List.length_take]; omega
theorem mapi_all {f:DV->DV} {l:List DV} {i:Nat} (h:l.length<=i):mapi f l i=l.map f:=by
 unfold mapi
 rw [List.take_of_length_le h]
theorem any_okV_f {l:List DV} (h:∀ v ∈ l,okV v=true):(l.any fun v=>!okV v)=false:=by
 rw [List.any_eq_false]
 intro v hv
 rw [h v hv]; decide
theorem TurnPolygonI_fn (l:List DV) (k:Int) (hl:∀ v ∈ l,okV v=true) (hn:l.length<=1048576) (hk:0<=k/\k<=3):Fn Tryz.prog 77 [⟨.slice tVec,l⟩,⟨.int,k⟩] true [⟨.slice tVec,l.map (rotN k.toNat)⟩]:=by
 have c1:=areVecs_fn l
 rw [any_okV_f hl] at c1
 refine fe Tryz.func77 Tryz.ntmps77 Tryz.results77 fun hwf=>?_
 try simp (maxSteps:=9^9) only[go_sem]
 repeat refine AI ?_
 refine cw c1 ?_
 try simp (maxSteps:=9^9) only[go_sem]
 refine LoopG.intro _ _ _ (fun i:Nat=>⟨[(1,.sc (.int .i64 k)),(5,.row 0 0),(12,.sl tVec l),(13,.sc (.int .i64 l.length)),(14,.sc (.int .i64 i))],[(0,.row 24 tVec 0 true (mapi (rotN k.toNat) l i))]⟩) (fun i=>i<=l.length) (fun i=>l.length - i) 0 ?_ (Nat.zero_le _) ?_
 ·exact WK
 ·rintro i hi
  try simp (maxSteps:=9^9) only[go_sem]
  refine CondW_dec (fun hA=>?_) (fun hA=>?_)
  ·have hlt:i < l.length:=by omega
   have hml:=mapi_len (f:=rotN k.toNat) (l:=l) (i:=i) (by omega)
   have e:=mapi_step (f:=rotN k.toNat) hlt
   have c2:=turnVec_fn (nth (t:=tVec) l i) k (hl _ (nth_mem hlt)) hk
   try simp (maxSteps:=9^9) only[go_sem]
   repeat refine AI ?_
   repeat refine AI ?_
   refine cw c2 ?_
   try simp (maxSteps:=9^9) only[go_sem]
   try simp (maxSteps:=9^9) only[go_sem,hml]
   repeat refine AI ?_
   refine LoopK.mk (i+1) ?_ (by omega) (by omega)
   rw [e]
   refine Wk.mk [] ?_
   try simp (maxSteps:=9^9) only[go_sem]
   try (and_intros<;>first|rfl|omega|exact ⟨_,rfl⟩)
   all_goals (first|exact ⟨by omega,rfl⟩|exact ⟨rfl,rfl⟩)
  ·rw [mapi_all (by omega)]
   try simp (maxSteps:=9^9) only[go_sem]
def negV (v:DV):DV:=(-v.1,-v.2)
theorem NegatePolygonI_fn (l:List DV) (hl:∀ v ∈ l,okV v=true) (hn:l.length<=1048576):Fn Tryz.prog 119 [⟨.slice tVec,l⟩] true [⟨.slice tVec,l.map negV⟩]:=by
 have c1:=areVecs_fn l
 rw [any_okV_f hl] at c1
 refine fe Tryz.func119 Tryz.ntmps119 Tryz.results119 fun hwf=>?_
 try simp (maxSteps:=9^9) only[go_sem]
 repeat refine AI ?_
 refine cw c1 ?_
 try simp (maxSteps:=9^9) only[go_sem]
 refine LoopG.intro _ _ _ (fun i:Nat=>⟨[(3,.row 0 0),(10,.sl tVec l),(11,.sc (.int .i64 l.length)),(12,.sc (.int .i64 i))],[(0,.row 24 tVec 0 true (mapi negV l i))]⟩) (fun i=>i<=l.length) (fun i=>l.length - i) 0 ?_ (Nat.zero_le _) ?_
 ·exact WK
 ·rintro i hi
  try simp (maxSteps:=9^9) only[go_sem]
  refine CondW_dec (fun hA=>?_) (fun hA=>?_)
  ·have hlt:i < l.length:=by omega
   have hml:=mapi_len (f:=negV) (l:=l) (i:=i) (by omega)
   have e:=mapi_step (f:=negV) hlt
   have hb:=okV_b (hl _ (nth_mem hlt))
   obtain ⟨b1,b2,b3,b4⟩:=hb
   try simp (maxSteps:=9^9) only[go_sem]
   repeat refine AI ?_
   try simp (maxSteps:=9^9) only[go_sem,hml]
   repeat refine AI ?_
   refine LoopK.mk (i+1) ?_ (by omega) (by omega)
   rw [e]
   unfold negV
   refine Wk.mk [] ?_
   try simp (maxSteps:=9^9) only[go_sem]
   try (and_intros<;>first|rfl|omega|exact ⟨_,rfl⟩)
   all_goals (first|exact ⟨by omega,rfl⟩|exact ⟨rfl,rfl⟩)
  ·rw [mapi_all (by omega)]
   try simp (maxSteps:=9^9) only[go_sem]
def addV (v c:DV):DV:=(c.1+v.1,c.2+v.2)
theorem moved_fn (l:List DV) (v:DV) (hv:okV v=true) (hl:∀ v ∈ l,okV v=true) (hn:l.length<=1048576):Fn Tryz.prog 154 [⟨.slice tVec,l⟩,⟨tVec,v⟩] true [⟨.slice tVec,l.map (addV v)⟩]:=by
 obtain ⟨q1,q2,q3,q4⟩:=okV_b hv
 refine fe Tryz.func154 Tryz.ntmps154 Tryz.results154 fun hwf=>?_
 try simp (maxSteps:=9^9) only[go_sem]
 refine LoopG.intro _ _ _ (fun i:Nat=>⟨[(3,.ptr 0 0),(5,.row 1 0),(9,.sl tVec l),(10,.sc (.int .i64 l.length)),(11,.sc (.int .i64 i))],[(1,.row 24 tVec 0 true (mapi (addV v) l i)),(0,.box [.sc (.int .i64 v.1),.sc (.int .i64 v.2)])]⟩) (fun i=>i<=l.length) (fun i=>l.length - i) 0 ?_ (Nat.zero_le _) ?_
 ·exact WK
 ·rintro i hi
  try simp (maxSteps:=9^9) only[go_sem]
  refine CondW_dec (fun hA=>?_) (fun hA=>?_)
  ·have hlt:i < l.length:=by omega
   have hml:=mapi_len (f:=addV v) (l:=l) (i:=i) (by omega)
   have e:=mapi_step (f:=addV v) hlt
   obtain ⟨b1,b2,b3,b4⟩:=okV_b (hl _ (nth_mem hlt))
   try simp (maxSteps:=9^9) only[go_sem]
   repeat refine AI ?_
   try simp (maxSteps:=9^9) only[go_sem,hml]
   repeat refine AI ?_
   refine LoopK.mk (i+1) ?_ (by omega) (by omega)
   rw [e]
   unfold addV
   refine Wk.mk [] ?_
   try simp (maxSteps:=9^9) only[go_sem]
   try (and_intros<;>first|rfl|omega|exact ⟨_,rfl⟩)
   all_goals (first|exact ⟨by omega,rfl⟩|exact ⟨rfl,rfl⟩)
  ·rw [mapi_all (by omega)]
   try simp (maxSteps:=9^9) only[go_sem]
section
variable {P:Program} {T:TypeId->Option Ty}
def RetG (T:TypeId->Option Ty) (rs:List ResultVar) (e:TypeId) (t:Ty) (l:List t.den) (σ:St):Prop :=
 match rs with
 | [r]=>∃ k ver,aRes T σ r=some (.row k ver)/\look σ.mem k=some (.row e t ver true l)
 | _=>False
theorem retG_ok (hT:TabOK P T) {fn:Func} {c:Cx} {σ:St} {Γ:Asg} {a:Act} {w:World} {e:TypeId} {t:Ty} {l:List t.den} (hs:Sim c σ Γ a w) (h:RetG T fn.results.toList e t l σ) :
  ∃ v,(results fn a.tmps).run P w=.ok v w/\∃ fps:List (List Nat),v.oneCell'=true/\GrowF t.rp c.base w e v l fps/\OwnFp c.base w fps.flatten/\∀ b ∈ fps.flatten,v.ownBlock ≠ some b:=by
 unfold RetG at h
 split at h
 ·rename_i r hr
  obtain ⟨k,ver,h1,h2⟩:=h
  obtain ⟨u,g1,g2⟩:=aRes_run (P:=P) hT hs h1 rfl
  obtain ⟨q1,B,hB,q2⟩:=g2
  rw [h2] at hB; injection hB with hB; subst hB
  obtain ⟨fps,hg,hf,hgd,hon⟩:=hs.mm k _ h2
  have hu:u=Γ.hd k:=q2.2 rfl
  have hfr:fn.results=#[r]:=toList1 hr
  refine ⟨u,?_,fps,q1,hu ▸ hg,hf ▸ hon rfl,fun b hb he=>?_⟩
  ·rw [results_eq,hfr,List.mapM_toArray,map_eq_pure_bind,Sem.run_bind,Sem.run_bind]
   simp only [List.mapM_cons,List.mapM_nil,Sem.run_bind,g1,Result.andThen_ok,Sem.run_pure]
   simp
  ·exact (hgd b (hf ▸ hb)).2 ⟨k,_,h2,by show (Γ.hd k).ownBlock=some b; rw [<-hu]; exact he⟩
 ·exact h.elim
def KRG (T:TypeId->Option Ty) (rs:List ResultVar) (e:TypeId) (t:Ty) (l:List t.den) (ex:Exit) (σ:St):Prop :=
 match ex with
 | .normal|.ret=>RetG T rs e t l σ
 | _=>False
@[go_sem] theorem KRG_n {rs:List ResultVar} {e:TypeId} {t:Ty} {l:List t.den} {σ:St}:KRG T rs e t l .normal σ=RetG T rs e t l σ:=(rfl)
@[go_sem] theorem KRG_r {rs:List ResultVar} {e:TypeId} {t:Ty} {l:List t.den} {σ:St}:KRG T rs e t l .ret σ=RetG T rs e t l σ:=(rfl)
attribute [go_sem] RetG
theorem fnG_enter (hT:TabOK P T) (hmix:P.follows .mixedOrders=true) {f:FuncId} {fn:Func} {code:Code} {args:List Dat} {e:TypeId} {t:Ty} {l:List t.den} (hf:P.funcs[f]? = some fn) (hname:(fn.name == "runtime.NumGoroutine")=false) (hb:fn.body=some code) (n:Nat) (hn:fn.ntmps=n) (rs:List ResultVar) (hr:fn.results=rs.toArray) (hna:args.length<=n)
  (h:(∀ d ∈ args,Wf d.1 d.2)->AC P T n code (KRG T rs e t l) ⟨argTm 0 args,[]⟩):FnG P f args e t l:=by
 subst hn
 have h':(∀ d ∈ args,Wf d.1 d.2)->AC P T fn.ntmps code (fun e' σ=>match e' with
   | .normal|.ret=>RetG T fn.results.toList e t l σ
   | _=>False) ⟨argTm 0 args,[]⟩:=fun hwf=>by
  have:=h hwf
  have e:(KRG T rs e t l)=fun e' σ=>match e' with
    | .normal|.ret=>RetG T fn.results.toList e t l σ
    | _=>False:=by
   have hrl:fn.results.toList=rs:=by rw [hr]
   rw [hrl]; funext e' σ; cases e'<;>rfl
  rw [e] at this
  exact this
 have:=fn_gen (VQ:=fun b S w v=>∃ fps:List (List Nat),v.oneCell'=true/\GrowF t.rp b w e v l fps/\OwnFp b w fps.flatten/\∀ b ∈ fps.flatten,v.ownBlock ≠ some b) hT hmix hf hname hb hna (fun c σ Γ a w hs hq=>retG_ok (P:=P) hT hs hq) h'
 refine ⟨this.1,fun w vs S hg ha=>(this.2 w vs S hg ha).mono ?_⟩
 rintro e w' ⟨hb,v,he,fps,q1,q2,q3,q4⟩
 exact ⟨hb,v,fps,he,q1,q2,q3,q4⟩
def RetP (T:TypeId->Option Ty) (rs:List ResultVar) (t:Ty) (x:t.den) (σ:St):Prop :=
 match rs with
 | [r]=>match aRes T σ r with
  | some (.ptr k 0)=>match look σ.mem k with
   | some (.box cs)=>Is (look σ.mem) t x cs
   | _=>False
  | _=>False
 | _=>False
theorem retP_ok (hT:TabOK P T) {fn:Func} {c:Cx} {σ:St} {Γ:Asg} {a:Act} {w:World} {t:Ty} {x:t.den} (hs:Sim c σ Γ a w) (h:RetP T fn.results.toList t x σ) :
  ∃ v,(results fn a.tmps).run P w=.ok v w/\DRes false c.base c.S w v ⟨.ext .ref t,some x⟩:=by
 unfold RetP at h
 split at h
 ·rename_i r hr
  split at h
  ·rename_i k h1
   split at h
   ·rename_i cs hk
    obtain ⟨u,g1,g2⟩:=aRes_run (P:=P) hT hs h1 rfl
    obtain ⟨xo,cs',hq,rfl⟩:=g2
    rw [hk] at hq; cases hq
    have hfr:fn.results=#[r]:=toList1 hr
    obtain ⟨hbase,_⟩:=hs.mm k _ hk
    obtain ⟨us,e,hg,hc⟩:=box_cell hs hk
    obtain ⟨fp,hrp,hfp,_⟩:=hs.isRep hc h
    refine ⟨_,?_,Γ.loc k none :: fp,⟨_,.inr ⟨rfl,rfl⟩,Γ.loc k none,0,us.toList,fp,rfl,rfl,hrp,fun j v hv=>?_⟩,(fun h=>by cases h),fun b hb=>(List.mem_cons.1 hb).elim (fun e=>e ▸ .inr hbase) (hfp b)⟩
    ·rw [results_eq,hfr,List.mapM_toArray,map_eq_pure_bind,Sem.run_bind,Sem.run_bind]
     simp only [List.mapM_cons,List.mapM_nil,Sem.run_bind,g1,Result.andThen_ok,Sem.run_pure]
     simp
    ·rw [Nat.zero_add,cell_of_row w _ _ us e (0,0) hg,<-Array.getElem?_toList]; exact hv
   ·exact h.elim
  ·exact h.elim
 ·exact h.elim
def KRP (T:TypeId->Option Ty) (rs:List ResultVar) (t:Ty) (x:t.den) (ex:Exit) (σ:St):Prop :=
 match ex with
 | .normal|.ret=>RetP T rs t x σ
 | _=>False
@[go_sem] theorem KRP_n {rs:List ResultVar} {t:Ty} {x:t.den} {σ:St}:KRP T rs t x .normal σ=RetP T rs t x σ:=(rfl)
@[go_sem] theorem KRP_r {rs:List ResultVar} {t:Ty} {x:t.den} {σ:St}:KRP T rs t x .ret σ=RetP T rs t x σ:=(rfl)
attribute [go_sem] RetP
theorem fnP_enter (hT:TabOK P T) (hmix:P.follows .mixedOrders=true) {f:FuncId} {fn:Func} {code:Code} {args:List Dat} {t:Ty} {x:t.den} (hf:P.funcs[f]? = some fn) (hname:(fn.name == "runtime.NumGoroutine")=false) (hb:fn.body=some code) (n:Nat) (hn:fn.ntmps=n) (rs:List ResultVar) (hr:fn.results=rs.toArray) (hna:args.length<=n)
  (h:(∀ d ∈ args,Wf d.1 d.2)->AC P T n code (KRP T rs t x) ⟨argTm 0 args,[]⟩):Fn P f args false [⟨.ext .ref t,some x⟩]:=by
 subst hn
 have h':(∀ d ∈ args,Wf d.1 d.2)->AC P T fn.ntmps code (fun e' σ=>match e' with
   | .normal|.ret=>RetP T fn.results.toList t x σ
   | _=>False) ⟨argTm 0 args,[]⟩:=fun hwf=>by
  have:=h hwf
  have e:(KRP T rs t x)=fun e' σ=>match e' with
    | .normal|.ret=>RetP T fn.results.toList t x σ
    | _=>False:=by
   have hrl:fn.results.toList=rs:=by rw [hr]
   rw [hrl]; funext e' σ; cases e'<;>rfl
  rw [e] at this
  exact this
 have:=fn_gen (VQ:=fun b S w v=>DRes false b S w v ⟨.ext .ref t,some x⟩) hT hmix hf hname hb hna (fun c σ Γ a w hs hq=>retP_ok (P:=P) hT hs hq) h'
 exact ⟨this.1,fun w vs S hg ha=>(this.2 w vs S hg ha).mono fun e w' ⟨hb,v,he,hd⟩=>⟨hb,v,he,hd⟩⟩
theorem args_wf {w:World} {S:Nat->Prop}:∀ {vs:List Value} {ds:List Dat},All2 (fun v d=>∃ fp,DRep w v d fp/\∀ b ∈ fp,S b) vs ds->∀ d ∈ ds,Wf d.1 d.2
 | _,[],_,d,hd=>by cases hd
 | v :: vs,d :: ds,⟨⟨fp,⟨cs,_,hr⟩,_⟩,h2⟩,d',hd'=>by
  rcases List.mem_cons.1 hd' with rfl|hd'
  ·exact rep_wf hr
  ·exact args_wf h2 d' hd'
 | [],_ :: _,h,_,_=>h.elim
theorem args_at {w:World} {S:Nat->Prop} {e:Dat}:∀ {vs:List Value} {ds:List Dat} {d:Nat},All2 (fun v d=>∃ fp,DRep w v d fp/\∀ b ∈ fp,S b) vs ds->ds[d]? = some e->∃ u,vs[d]? = some u/\∃ fp,DRep w u e fp/\∀ b ∈ fp,S b
 | _,[],d,_,h=>by simp at h
 | [],_ :: _,_,hA,_=>hA.elim
 | v :: vs,d0 :: ds,0,hA,h=>by simp at h; subst h; exact ⟨v,rfl,hA.1⟩
 | v :: vs,d0 :: ds,d+1,hA,h=>by simpa using args_at hA.2 (by simpa using h)
def KRC (T:TypeId->Option Ty) (rs:List ResultVar) (own:Bool) (d:Dat) (B:Blk) (ex:Exit) (σ:St):Prop :=
 match ex with
 | .normal|.ret=>RetOK T σ own rs [d]/\look σ.mem 0=some B
 | _=>False
@[go_sem] theorem KRC_n {rs:List ResultVar} {own:Bool} {d:Dat} {B:Blk} {σ:St}:KRC T rs own d B .normal σ=(RetOK T σ own rs [d]/\look σ.mem 0=some B):=(rfl)
@[go_sem] theorem KRC_r {rs:List ResultVar} {own:Bool} {d:Dat} {B:Blk} {σ:St}:KRC T rs own d B .ret σ=(RetOK T σ own rs [d]/\look σ.mem 0=some B):=(rfl)
theorem fnC_enter (hT:TabOK P T) (hmix:P.follows .mixedOrders=true) {f:FuncId} {fn:Func} {code:Code} {t:Ty} {l:List t.den} {zs zs':List Value} {args:List Dat} {own:Bool} {d:Dat} (hf:P.funcs[f]? = some fn) (hname:(fn.name == "runtime.NumGoroutine")=false) (hb:fn.body=some code) (n:Nat) (hn:fn.ntmps=n) (rs:List ResultVar) (hr:fn.results=rs.toArray) (hna:args.length < n)
  (hz:∀ z ∈ zs',z.oneCell'=true/\okv z) (hzo:∀ z ∈ zs,z.oneCell'=true)
  (h:∀ b u0,Wf (.slice t) l->(∀ z ∈ zs,okv z)->(∀ d ∈ args,Wf d.1 d.2)->AC P T n code (KRC T rs own d (.bx (some b) (.fx u0 t l :: zs'.map fun z=>.sc z))) ⟨(0,.ptr 0 0) :: argTm 1 args,[(0,.bx (some b) (.fx u0 t l :: zs.map fun z=>.sc z))]⟩):FnC P f t l zs zs' args own d:=by
 subst hn
 refine ⟨fun vs w=>?_,hz,fun w b u0 e fp vs S hgw hgb hg hzs hrp hfp hSb hargs=>?_⟩
 ·have h1:fn.name ≠ "runtime.NumGoroutine":=by simpa using hname
  simp [callFunc,hf,h1,hb]
 ·refine calls_of_wp hf hb ?_
  have hlen:=hargs.len
  let c:Cx:=⟨w.heap.size,w,S,fn.ntmps,fun x=>x=b⟩
  have hmut:∀ {Γ:Asg} {x:Nat},S x->¬ Mut [(0,Blk.bx (some b) (.fx u0 t l :: zs.map fun z=>.sc z))] Γ x:=by
   rintro Γ x hx ⟨k,B,hk,hm⟩
   by_cases h0:k=0
   ·subst h0
    rw [look_self] at hk; injection hk with hk; subst hk
    obtain rfl:x=b:=hm
    exact hSb hx
   ·rw [look_ne _ _ h0] at hk; cases hk
  have hs:Sim c ⟨(0,.ptr 0 0) :: argTm 1 args,[(0,.bx (some b) (.fx u0 t l :: zs.map fun z=>.sc z))]⟩ ⟨fun _=>0,fun _=>undef,fun _=>[]⟩ { tmps:=(.pointer (some ⟨b,0,none⟩) :: vs).toArray++Array.replicate (fn.ntmps - (Value.pointer (some ⟨b,0,none⟩) :: vs).toArray.size) undef,defers:=[] } w:=by
   refine ⟨fun d v hd=>?_,fun k B hk=>?_,fun k k' B B' x hk hk' _ _=>?_,fun k k' B B' x hk hk' hne hx=>?_,.of (Below.refl _ _),Nat.le_refl _,rfl,by simp [c]; omega⟩
   ·by_cases hd0:d=0
    ·subst hd0
     rw [look_self] at hd; injection hd with hd; subst hd
     refine ⟨.pointer (some ⟨b,0,none⟩),?_,some b,_,look_self ..,rfl⟩
     rw [Array.getElem?_append_left (by simp)]; rfl
    ·rw [look_ne _ _ hd0] at hd
     obtain ⟨h1,h2,e,h3,rfl⟩:=argTm_ge hd
     obtain ⟨u,hu,fp,hdr,hS⟩:=args_at hargs h3
     refine ⟨u,?_,arep_vrep (av_rep hdr fun x hx=>⟨.inl (hS x hx),hmut (hS x hx)⟩)⟩
     have hdl:d < (Value.pointer (some ⟨b,0,none⟩) :: vs).length:=by simp; omega
     rw [Array.getElem?_append_left (by simpa using hdl)]
     have:d=(d - 1)+1:=by omega
     rw [this]
     simpa using hu
   ·by_cases h0:k=0
    ·subst h0
     rw [look_self] at hk; injection hk with hk; subst hk
     refine ⟨rfl,_,e,hg,⟨rfl,fp,hrp,fun x hx=>⟨.inl (hfp x hx),hmut (hfp x hx)⟩⟩,?_⟩
     have key:∀ {ys:List Value},(∀ z ∈ ys,okv z)->(∀ z ∈ ys,z.oneCell'=true)->∀ {M:Mm} {Γ:Asg},All2 (CRep c M Γ w) (ys.map fun z=>AV.sc z) ys:=fun h1 h2=>vals_sc fun z hz=>⟨h2 z hz,h1 z hz⟩
     exact key hzs hzo
    ·rw [look_ne _ _ h0] at hk; cases hk
   ·by_cases h0:k=0<;>by_cases h1:k'=0
    ·omega
    ·rw [look_ne _ _ h1] at hk'; cases hk'
    ·rw [look_ne _ _ h0] at hk; cases hk
    ·rw [look_ne _ _ h0] at hk; cases hk
   ·by_cases h0:k=0
    ·subst h0
     rw [look_self] at hk; injection hk with hk; subst hk; cases hx
    ·rw [look_ne _ _ h0] at hk; cases hk
  have hrl:fn.results.toList=rs:=by rw [hr]
  have hcg:Nonempty (CG P c):=⟨CG.of hgw fun g hg e=>hgb g hg e.symm⟩
  refine AC_wp (c:=c) hT hmix (h b u0 (rep_wf (t:=.slice t) hrp) hzs (args_wf hargs)) hs fun e σ' Γ' a' w' hq hs'=>?_
  have hq':∀ (hx:RetOK T σ' own rs [d]/\look σ'.mem 0=some (.bx (some b) (.fx u0 t l :: zs'.map fun z=>.sc z))),a'.defers=[]/\∃ v,(results fn a'.tmps).run P w'=.ok v w'/\BelowX (fun x=>x=b) w.heap.size w w'/\(∃ e,w'.heap[b]? = some (.cells (u0 :: zs').toArray e (0,0)))/\∃ u,Ending.returned v=.returned u/\ResOK own w.heap.size S w' u [d]:=fun hx=>by
   obtain ⟨v,h1,h2⟩:=ret_ok (P:=P) (fn:=fn) hT hs' (by rw [hrl]; exact hx.1)
   obtain ⟨_,us,e,hge,hce⟩:=hs'.mm 0 _ hx.2
   refine ⟨hs'.defs,v,h1,hs'.below,⟨e,?_⟩,v,rfl,h2⟩
   have hul:us.toList=u0 :: zs':=by
    cases hul:us.toList with
    | nil=>rw [hul] at hce; exact hce.elim
    | cons x xs =>
     rw [hul] at hce
     obtain ⟨h3,_⟩:=sc_vals hce.2
     rw [h3,show x=u0 from hce.1.1]
   rw [show (u0 :: zs').toArray=us by rw [<-hul]]
   exact hge
  cases e with
  | normal=>exact hq' hq
  | ret=>exact hq' hq
  | _=>exact hq.elim
def RetN (T:TypeId->Option Ty) (rs:List ResultVar) (cs:List AV) (σ:St):Prop :=
 match rs with
 | [r]=>match aRes T σ r with
  | some (.ptr k 0)=>look σ.mem k=some (.bx none cs)
  | _=>False
 | _=>False
def KRN (T:TypeId->Option Ty) (rs:List ResultVar) (cs:List AV) (ex:Exit) (σ:St):Prop :=
 match ex with
 | .normal|.ret=>RetN T rs cs σ
 | _=>False
@[go_sem] theorem KRN_n {rs:List ResultVar} {cs:List AV} {σ:St}:KRN T rs cs .normal σ=RetN T rs cs σ:=(rfl)
@[go_sem] theorem KRN_r {rs:List ResultVar} {cs:List AV} {σ:St}:KRN T rs cs .ret σ=RetN T rs cs σ:=(rfl)
attribute [go_sem] RetN
theorem fnN_enter (hT:TabOK P T) (hmix:P.follows .mixedOrders=true) {f:FuncId} {fn:Func} {code:Code} {t:Ty} {l:List t.den} {zs:List Value} {args:List Dat} (hf:P.funcs[f]? = some fn) (hname:(fn.name == "runtime.NumGoroutine")=false) (hb:fn.body=some code) (n:Nat) (hn:fn.ntmps=n) (rs:List ResultVar) (hr:fn.results=rs.toArray) (hna:args.length < n)
  (hz:∀ z ∈ zs,z.oneCell'=true/\okv z)
  (h:∀ u0,Wf (.slice t) l->(∀ d ∈ args,Wf d.1 d.2)->AC P T n code (KRN T rs (.fx u0 t l :: zs.map fun z=>.sc z)) ⟨(0,.fx u0 t l) :: argTm 1 args,[]⟩):FnN P f t l zs args:=by
 subst hn
 refine ⟨fun vs w=>?_,hz,fun w u0 fp vs S hgw hrp hfp hargs=>?_⟩
 ·have h1:fn.name ≠ "runtime.NumGoroutine":=by simpa using hname
  simp [callFunc,hf,h1,hb]
 ·refine calls_of_wp hf hb ?_
  have hlen:=hargs.len
  let c:Cx:=⟨w.heap.size,w,S,fn.ntmps,fun _=>False⟩
  have hs:Sim c ⟨(0,.fx u0 t l) :: argTm 1 args,[]⟩ ⟨fun _=>0,fun _=>undef,fun _=>[]⟩ { tmps:=(u0 :: vs).toArray++Array.replicate (fn.ntmps - (u0 :: vs).toArray.size) undef,defers:=[] } w:=by
   refine ⟨fun d v hd=>?_,fun k B hk=>(by cases hk),fun k k' B B' b hk=>(by cases hk),fun k k' B B' b hk=>(by cases hk),.of (Below.refl _ _),Nat.le_refl _,rfl,by simp [c]; omega⟩
   have hmut:∀ {Γ:Asg} {x:Nat},¬ Mut [] Γ x:=by rintro Γ x ⟨k,B,hk,_⟩; cases hk
   by_cases hd0:d=0
   ·subst hd0
    rw [look_self] at hd; injection hd with hd; subst hd
    refine ⟨u0,?_,rfl,fp,hrp,fun x hx=>⟨.inl (hfp x hx),hmut⟩⟩
    rw [Array.getElem?_append_left (by simp)]; rfl
   ·rw [look_ne _ _ hd0] at hd
    obtain ⟨h1,h2,e,h3,rfl⟩:=argTm_ge hd
    obtain ⟨u,hu,fp,hdr,hS⟩:=args_at hargs h3
    refine ⟨u,?_,arep_vrep (av_rep hdr fun x hx=>⟨.inl (hS x hx),hmut⟩)⟩
    have hdl:d < (u0 :: vs).length:=by simp; omega
    rw [Array.getElem?_append_left (by simpa using hdl)]
    have:d=(d - 1)+1:=by omega
    rw [this]
    simpa using hu
  have hrl:fn.results.toList=rs:=by rw [hr]
  have hcg:Nonempty (CG P c):=⟨CG.of hgw fun _ _ h=>h⟩
  refine AC_wp (c:=c) hT hmix (h u0 (rep_wf (t:=.slice t) hrp) (args_wf hargs)) hs fun e σ' Γ' a' w' hq hs'=>?_
  have hq':∀ (hx:RetN T rs (.fx u0 t l :: zs.map fun z=>.sc z) σ'),a'.defers=[]/\∃ v,(results fn a'.tmps).run P w'=.ok v w'/\Below w.heap.size w w'/\∃ (b:Nat) (e:TypeId),Ending.returned v=.returned (.pointer (some ⟨b,0,none⟩))/\w.heap.size<=b/\w'.heap[b]? = some (.cells (u0 :: zs).toArray e (0,0)):=fun hx=>by
   unfold RetN at hx
   split at hx
   ·rename_i r
    split at hx
    ·rename_i k h1
     obtain ⟨u,g1,xo,cs',hq,rfl⟩:=aRes_run (P:=P) hT hs' h1 rfl
     rw [hx] at hq; cases hq
     obtain ⟨hbase,us,e,hge,hce⟩:=hs'.mm k _ hx
     have hul:us.toList=u0 :: zs:=by
      cases hul:us.toList with
      | nil=>rw [hul] at hce; exact hce.elim
      | cons x xs =>
       rw [hul] at hce
       obtain ⟨h3,_⟩:=sc_vals hce.2
       rw [h3,show x=u0 from hce.1.1]
     refine ⟨hs'.defs,_,?_,hs'.below.to,Γ'.loc k none,e,rfl,hbase,by rw [show (u0 :: zs).toArray=us by rw [<-hul]]; exact hge⟩
     rw [results_eq,hr,List.mapM_toArray,map_eq_pure_bind,Sem.run_bind,Sem.run_bind]
     simp only [List.mapM_cons,List.mapM_nil,Sem.run_bind,g1,Result.andThen_ok,Sem.run_pure]
     simp
    ·exact hx.elim
   ·exact hx.elim
  cases e with
  | normal=>exact hq' hq
  | ret=>exact hq' hq
  | _=>exact hq.elim
def KRM (T:TypeId->Option Ty) (rs:List ResultVar) (res:List Dat) (B:Blk) (ex:Exit) (σ:St):Prop :=
 match ex with
 | .normal|.ret=>RetOK T σ false rs res/\look σ.mem 0=some B
 | _=>False
@[go_sem] theorem KRM_n {rs:List ResultVar} {res:List Dat} {B:Blk} {σ:St}:KRM T rs res B .normal σ=(RetOK T σ false rs res/\look σ.mem 0=some B):=(rfl)
@[go_sem] theorem KRM_r {rs:List ResultVar} {res:List Dat} {B:Blk} {σ:St}:KRM T rs res B .ret σ=(RetOK T σ false rs res/\look σ.mem 0=some B):=(rfl)
def avW (b:Nat) (d:Dat):AV :=
 match d with
 | ⟨.cst (.ptr p),_⟩=>if p=b then .ptr 0 0 else .sc (.pointer (some ⟨p,0,none⟩))
 | d=>av d.1 d.2
def argW (b i:Nat):List Dat->Tm
 | []=>[]
 | d :: ds=>(i,avW b d) :: argW b (i+1) ds
def RetNP (T:TypeId->Option Ty) (rs:List ResultVar) (t:Ty) (x:t.den) (σ:St):Prop :=
 match rs with
 | [r]=>match aRes T σ r with
  | some (.ptr k 0)=>match look σ.mem k with
   | some (.bx none cs)=>Is (lmQ (look σ.mem)) t x (cs.take t.size)/\(match cs.drop t.size with
    | [.row j v]=>(match look σ.mem j with
     | some (.ob none v' (.map []))=>v'=v
     | _=>False)
    | _=>False)
   | _=>False
  | _=>False
 | _=>False
def KRNP (T:TypeId->Option Ty) (rs:List ResultVar) (t:Ty) (x:t.den) (ex:Exit) (σ:St):Prop :=
 match ex with
 | .normal|.ret=>RetNP T rs t x σ
 | _=>False
@[go_sem] theorem KRNP_n {rs:List ResultVar} {t:Ty} {x:t.den} {σ:St}:KRNP T rs t x .normal σ=RetNP T rs t x σ:=(rfl)
@[go_sem] theorem KRNP_r {rs:List ResultVar} {t:Ty} {x:t.den} {σ:St}:KRNP T rs t x .ret σ=RetNP T rs t x σ:=(rfl)
attribute [go_sem] RetNP avW argW
def argV (i:Nat):List AV->Tm
 | []=>[]
 | v :: vs=>(i,v) :: argV (i+1) vs
def FnB (P:Program) (f:FuncId) (vs:List AV) (M:Mm) (own:Bool) (res:List Dat):Prop :=
 (∀ vs w,(callFunc f vs).run P w=.ok (.enter f vs) w) ∧
 ∀ (c:Cx) (Γ:Asg) (a:Act) (w:World) (tm:Tm) (us:List Value),CG P c->Sim c ⟨tm,M⟩ Γ a w->All2 (fun v u=>ARep c M Γ w v u) vs us →
  Calls P f us.toArray w fun en w'=>BelowX c.X c.base c.w0 w'/\c.base<=w'.heap.size/\∃ v,en=.returned v/\ResOK own c.base c.S w' v res
def TW (P:Program) (n:Nat) (x:Code) (Q:Exit->St->Prop) (σ:St):Prop :=
 ∀ (c:Cx) (Γ:Asg) (a:Act) (w:World) (Q':Exit->Act->World->Prop),CG P c->c.n=n->Sim c σ Γ a w->(∀ e σ' Γ' a' w',Q e σ'->Sim c σ' Γ' a' w'->Q' e a' w')->x.wp P Q' a w
theorem TW.of (hT:TabOK P T) (hmix:P.follows .mixedOrders=true) {n:Nat} {x:Code} {Q:Exit->St->Prop} {σ:St} (h:AC P T n x Q σ):TW P n x Q σ :=
 fun c Γ a w Q' hcg0 hn hs hQ=>have:Nonempty (CG P c):=⟨hcg0⟩; AC_wp hT hmix (by rw [hn]; exact h) hs hQ
theorem TW.seq (hT:TabOK P T) (hmix:P.follows .mixedOrders=true) {n:Nat} {x y:Code} {Q:Exit->St->Prop} {σ:St} (h:AC P T n x (thenA (fun σ'=>TW P n y Q σ') Q) σ):TW P n (.seq x y) Q σ :=
 fun c Γ a w Q' hcg0 hn hs hQ=>by
  have hcg:Nonempty (CG P c):=⟨hcg0⟩
  refine wp_seq (AC_wp hT hmix (show AC P T c.n x _ σ by rw [hn]; exact h) hs fun e σ' Γ' a' w' hq hs'=>?_)
  cases e with
  | normal=>exact hq c Γ' a' w' Q' hcg0 hn hs' hQ
  | _=>exact hQ _ _ _ _ _ hq hs'
theorem TW.then (hT:TabOK P T) (hmix:P.follows .mixedOrders=true) {n:Nat} {x y:Code} {Q:Exit->St->Prop} {σ:St} (h:TW P n x (thenA (fun σ'=>AC P T n y Q σ') Q) σ):TW P n (.seq x y) Q σ :=
 fun c Γ a w Q' hcg0 hn hs hQ=>by
  have hcg:Nonempty (CG P c):=⟨hcg0⟩
  refine wp_seq (h c Γ a w _ hcg0 hn hs fun e σ' Γ' a' w' hq hs'=>?_)
  cases e with
  | normal=>exact AC_wp hT hmix (show AC P T c.n y Q σ' by rw [hn]; exact hq) hs' hQ
  | _=>exact hQ _ _ _ _ _ hq hs'
theorem went_app {c:Cx} [Nonempty (CG P c)] {ops:List Oper} {Q:Exit->Act->World->Prop} {post:List Oper}:∀ {os:List Oper} {es:List Eff} {σ:St} {Γ:Asg} {a:Act} {w:World},Went' P c ops σ os es->Sim c σ Γ a w->(∀ Γ' a' w',Sim c (runEs σ (os.zip es)) Γ' a' w'->wpList P ops.toArray Q post a' w')->wpList P ops.toArray Q (os++post) a w
 | [],_,σ,Γ,a,w,.nil _,hs,hQ=>hQ Γ a w hs
 | o :: os,e :: es,σ,Γ,a,w,.cons h1 h2,hs,hQ=>by
  refine wpList_step fun K hK=>?_
  exact h1.step hs (fun _ _=>rfl) (fun _ _ _ _ _=>rfl) (fun _ _=>rfl) fun Γ' a' w' hs'=>hK _ _ (went_app h2 hs' hQ)
def resV (own:Bool) (d:Dat):AV:=if own then oav 0 d else av d.1 d.2
def resM' (own:Bool) (d:Dat):Mm:=if own then (ocel 0 d.1 d.2).2 else []
def TailW (P:Program) (T:TypeId->Option Ty) (n:Nat) (ops:List Oper) (f:FuncId) (xs:List Operand) (d:Nat) (post:List Oper) (own:Bool) (r:Dat) (Q:Exit->St->Prop) (σ:St):Prop :=
 ∃ τ vs,Wk σ τ/\evs (look τ.tmps) xs=some vs/\vs.all AV.ok=true/\FnB P f vs τ.mem own [r]/\d < n/\AO P T n ops post ⟨[(d,resV own r)],resM' own r⟩ [] (fun σ' _=>Q .normal σ')
theorem TW.tail (hT:TabOK P T) {n id:Nat} {l:List Oper} (i:Nat) {d:Nat} {f:FuncId} {xs:Array Operand} {tys:Array TypeId} {ty:TypeId} {ps:String} {af:Array Edge} {post:List Oper} {own:Bool} {r:Dat} {Q:Exit->St->Prop} {σ:St}
  (hl:l.drop i=⟨some d,.call { callee:=.value (.func f),args:=xs,argTypes:=tys },ty,ps,af,none⟩ :: post)
  (h:AO P T n l (l.take i) σ [] (fun σ1 _=>TailW P T n l f xs.toList d post own r Q σ1)):TW P n (.region id l.toArray false) Q σ:=fun c Γ a w Q' hcg0 hn hs hQ=>by
 have hcg:Nonempty (CG P c):=⟨hcg0⟩
 subst hn
 obtain ⟨es,σ',h1,h3,h4⟩:=AO_went hT h Same.rfl'
 refine wp_region_lit ?_
 have hsp:l=l.take i++l.drop i:=(List.take_append_drop i l).symm
 rw [show wpList P l.toArray Q' l a w=wpList P l.toArray Q' (l.take i++l.drop i) a w by rw [<-hsp]]
 refine went_app h1 hs fun Γ1 a1 w1 hs1=>?_
 have hs1:=hs1.same h4
 obtain ⟨τ,vs,hwk,hev,hok,hfn,hd,hpost⟩:=h3
 obtain ⟨Γ2,hs2⟩:=wk_sim hs1 hwk
 rw [hl]
 refine wpList_step fun K hK=>?_
 rw [if_pos (by simp [Region.wanted])]
 have hvs:=evs_rep hs2 (xs:=xs.toList) (fun x _ t e=>rfl) hev hok
 have hvs':All2 (fun v u=>ARep c τ.mem Γ2 w1 v u) vs (xs.toList.map a1.eval):=by
  have:∀ {vs:List AV} {ys:List Operand},All2 (fun v x=>ARep c τ.mem Γ2 w1 v (a1.eval x)) vs ys->All2 (fun v u=>ARep c τ.mem Γ2 w1 v u) vs (ys.map a1.eval):=by
   intro vs ys
   induction vs generalizing ys with
   | nil=>intro h; cases ys with|nil=>trivial|cons=>exact h.elim
   | cons v vs ih=>intro h; cases ys with
    | nil=>exact h.elim
    | cons y ys=>exact ⟨h.1,ih h.2⟩
  exact this hvs
 have hrun:(execOp a1.eval ⟨some d,.call { callee:=.value (.func f),args:=xs,argTypes:=tys },ty,ps,af,none⟩).run P w1=.ok (.enter f (xs.map a1.eval)) w1:=by
  have h0:=hfn.1 (xs.map a1.eval) w1
  have e1:a1.eval (.func f)=.func (.func f) #[] #[]:=rfl
  simp [execOp,resolve,e1,Deferred.ofValue,invoke,h0]
 unfold Oper.wp
 rw [hrun,Oper.upon_enter]
 have hma:xs.map a1.eval=(xs.toList.map a1.eval).toArray:=Array.toList_inj.1 (by rw [Array.toList_map])
 rw [hma]
 refine (hfn.2 c Γ2 a1 w1 τ.tmps _ hcg0 hs2 hvs').mono ?_
 rintro e w' ⟨hb,hbs,u,rfl,fp,hdr,hown,hfp⟩
 have h0:Sim c ⟨[],[]⟩ ⟨fun _=>0,fun _=>undef,fun _=>[]⟩ a1 w' :=
  ⟨fun d v hd=>(by cases hd),fun k B hk=>(by cases hk),fun k k' B B' b hk=>(by cases hk),fun k k' B B' b hk=>(by cases hk),hb,hbs,hs1.defs,hs1.sz⟩
 have hfin:∃ Γ3,Sim c ⟨[(d,resV own r)],resM' own r⟩ Γ3 (a1.put (some d) u) w':=by
  cases own with
  | true =>
   have ho:=hown rfl
   obtain ⟨cs,hpk,hrp⟩:=hdr
   obtain ⟨Γ',s1,r1,_,_,_⟩:=h0.ocel (k:=0) hrp ho (fun b hbb=>⟨.inr (ho.2 b hbb).1,fun ⟨k,B,hB,_⟩=>by cases hB⟩) (fun b hbb j B hj=>by cases hj) (fun p hp=>rfl)
   refine ⟨Γ',?_⟩
   have hv:VRep c ((ocel 0 r.1 r.2).2++[]) Γ' w' (oav 0 r) u:=by
    unfold oav
    rcases hpk with ⟨hag,rfl⟩|⟨hag,rfl⟩
    ·rw [hag]; exact ⟨cs,rfl,r1⟩
    ·rw [hag]
     obtain ⟨v,hv1⟩:=ocel_one (k:=0) (x:=r.2) hag
     rw [hv1] at r1 ⊢
     exact crep_vrep r1.1
   have:=s1.put (d:=some d) hv (fun x hx=>by injection hx with hx; subst hx; exact hd)
   simpa [resV,resM',St.put] using this
  | false =>
   refine ⟨⟨fun _=>0,fun _=>undef,fun _=>[]⟩,?_⟩
   have hv:VRep c [] ⟨fun _=>0,fun _=>undef,fun _=>[]⟩ w' (av r.1 r.2) u:=arep_vrep (av_rep hdr fun b hbb=>⟨hfp b hbb,fun ⟨k,B,hB,_⟩=>by cases hB⟩)
   have:=h0.put (d:=some d) hv (fun x hx=>by injection hx with hx; subst hx; exact hd)
   simpa [resV,resM',St.put] using this
 obtain ⟨Γ3,hs3⟩:=hfin
 obtain ⟨es',σ'',g1,g3,g4⟩:=AO_went hT hpost Same.rfl'
 exact hK _ _ (went_list g1 hs3 fun Γ' a' w' hs'=>hQ _ _ _ _ _ g3 (hs'.same g4))
end
theorem rv_len (b a:DV) (r:List DV):(b :: a :: r).reverse.length=r.length+2:=by rw [List.length_reverse]; rfl
theorem nth_app {l m:List DV} {x:DV} (k:Nat) (h:k=l.length):nth (t:=tVec) (l++x :: m) k=x:=by
 subst h
 rw [nth_lt (by simp)]
 simp
theorem rv_a (b a:DV) (r:List DV):nth (t:=tVec) (b :: a :: r).reverse r.length=a:=by
 rw [List.reverse_cons,List.reverse_cons,List.append_assoc]
 exact nth_app _ (by simp)
theorem rv_b (b a:DV) (r:List DV):nth (t:=tVec) (b :: a :: r).reverse (r.length+1)=b:=by
 rw [List.reverse_cons,List.reverse_cons]
 exact nth_app _ (by simp)
theorem rv_take (b a:DV) (r:List DV):(b :: a :: r).reverse.take (r.length+1)=(a :: r).reverse:=by
 rw [List.reverse_cons,List.take_append_of_le_length (by simp),List.take_of_length_le (by simp)]
theorem popD_go {v b a:DV} {r:List DV} (h:trn a b v<=0):popD v (b :: a :: r)=popD v (a :: r):=by
 rw [popD,if_pos h]
theorem popD_end {v b a:DV} {r:List DV} (h:¬ trn a b v<=0):popD v (b :: a :: r)=b :: a :: r:=by
 rw [popD,if_neg h]
theorem popD_1 {v:DV} {s:List DV} (h:s.length<=1):popD v s=s:=by
 match s,h with
 | [],_=>rfl
 | [a],_=>rfl
def popOK (v:DV) (s0 s:List DV):Prop:=popD v s=popD v s0/\(∀ x ∈ s,okV x=true)/\s.length<=s0.length
theorem trq_ok {a b c:DV} (ha:okV a=true) (hb:okV b=true) (hc:okV c=true):trq a b c=trn a b c:=by
 unfold trq
 rw [ha,hb,hc]; rfl
theorem chain_fn (l:List DV) (hl:∀ v ∈ l,okV v=true) (h0:0 < l.length) (hn:l.length<=1048576):FnG Tryz.prog 177 [⟨.slice tVec,l⟩] 24 tVec (chD l):=by
 refine fnG_enter tabOK mixes Tryz.func177 rfl rfl _ Tryz.ntmps177 _ Tryz.results177 (by simp) fun hwf=>?_
 try simp (maxSteps:=9^9) only[go_sem]
 refine LoopG.intro _ _ _ (fun i:Nat=>⟨[(3,.row 0 0),(7,.sl tVec l),(8,.sc (.int .i64 l.length)),(9,.sc (.int .i64 i))],[(0,.row 24 tVec 0 true (chRi l i).reverse)]⟩) (fun i=>i<=l.length) (fun i=>l.length - i) 0 ?_ (Nat.zero_le _) ?_
 ·exact WK
 ·rintro i hi
  try simp (maxSteps:=9^9) only[go_sem]
  refine CondW_dec (fun hA=>?_) (fun hA=>?_)
  ·have hlt:i < l.length:=by omega
   have hv:=hl _ (nth_mem hlt)
   have hst:=chRi_step hlt
   have hcl:=chRi_len l i
   try simp (maxSteps:=9^9) only[go_sem]
   repeat refine AI ?_
   generalize hvv:nth (t:=tVec) l i=v at hv hst ⊢
   refine LoopG.intro _ _ _ (fun s:List DV=>⟨[(3,.row 0 0),(5,.ptr 1 0),(7,.sl tVec l),(8,.sc (.int .i64 l.length)),(9,.sc (.int .i64 i))],[(1,.box [.sc (.int .i64 v.1),.sc (.int .i64 v.2)]),(0,.row 24 tVec 0 true s.reverse)]⟩) (popOK v (chRi l i)) (fun s=>s.length) (chRi l i) ?_ ⟨rfl,fun x hx=>hl _ (chRi_mem hx),Nat.le_refl _⟩ ?_
   ·exact WK
   ·rintro s ⟨k1,k2,k3⟩
    by_cases h1:s.length<=1
    ·have hrl:s.reverse.length=s.length:=List.length_reverse
     have d1:=decide_eq_false (p:=(s.reverse.length:Int) > 1) (by omega)
     try simp (maxSteps:=9^9) only[go_sem,d1]
     repeat refine AI ?_
     refine LoopK.mk (i+1) ?_ (by omega) (by omega)
     rw [hst,<-k1,popD_1 h1,List.reverse_cons]
     refine Wk.mk [] ?_
     try simp (maxSteps:=9^9) only[go_sem]
     try (and_intros<;>first|rfl|omega|exact ⟨_,rfl⟩)
     all_goals (first|exact ⟨by omega,rfl⟩|exact ⟨rfl,rfl⟩)
    ·obtain ⟨b,a,r,rfl⟩:∃ b a r,s=b :: a :: r:=by
      match s,h1 with
      | b :: a :: r,_=>exact ⟨b,a,r,rfl⟩
      | [a],h=>exact absurd (Nat.le_refl _) h
      | [],h=>exact absurd (Nat.zero_le _) h
     have ea:=rv_a b a r
     have eb:=rv_b b a r
     have et:=rv_take b a r
     have hrl:=rv_len b a r
     have oa:=k2 a (by simp)
     have ob:=k2 b (by simp)
     have hrc:(b :: a :: r).reverse++[v]=(v :: b :: a :: r).reverse:=(List.reverse_cons ..).symm
     have hls:(b :: a :: r).length=r.length+2:=rfl
     generalize hw:(b :: a :: r).reverse=w at ea eb et hrl hrc ⊢
     have d1:=decide_eq_true (p:=(w.length:Int) > 1) (by omega)
     have e2:((w.length:Int) - 2).toNat=r.length:=by omega
     have e1:((w.length:Int) - 1).toNat=r.length+1:=by omega
     have c1:=turn_fn (nth (t:=tVec) w ((w.length:Int) - 2).toNat) (nth (t:=tVec) w ((w.length:Int) - 1).toNat) v (by rw [e2,ea]; exact oa) (by rw [e1,eb]; exact ob) hv
     try simp (maxSteps:=9^9) only[go_sem,d1]
     repeat refine AI ?_
     refine cw c1 ?_
     try simp (maxSteps:=9^9) only[go_sem]
     repeat refine AI ?_
     refine CondW_dec (fun hB=>?_) (fun hB=>?_)
     ·rw [e2,e1,ea,eb] at hB
      try simp (maxSteps:=9^9) only[go_sem]
      repeat refine AI ?_
      refine SlcW.cut (e:=24) (o:=true) ⟨rfl,rfl,?_⟩
      try simp (maxSteps:=9^9) only[go_sem]
      repeat refine AI ?_
      refine LoopK.mk (a :: r) ?_ ⟨(popD_go hB).symm.trans k1,fun x hx=>k2 x (List.mem_cons_of_mem _ hx),by simp at k3 ⊢; omega⟩ (by simp)
      rw [e1,et]
      refine Wk.mk [] ?_
      try simp (maxSteps:=9^9) only[go_sem]
      try (and_intros<;>first|rfl|omega|exact ⟨_,rfl⟩)
      all_goals (first|exact ⟨by omega,rfl⟩|exact ⟨rfl,rfl⟩|trace_state)
     ·rw [e2,e1,ea,eb] at hB
      try simp (maxSteps:=9^9) only[go_sem]
      repeat refine AI ?_
      refine LoopK.mk (i+1) ?_ (by omega) (by omega)
      rw [hst,<-k1,popD_end hB,hrc]
      refine Wk.mk [] ?_
      try simp (maxSteps:=9^9) only[go_sem]
      try (and_intros<;>first|rfl|omega|exact ⟨_,rfl⟩)
      all_goals (first|exact ⟨by omega,rfl⟩|exact ⟨rfl,rfl⟩)
  ·have hii:i=l.length:=by omega
   subst hii
   have hne:0 < (chRi l l.length).reverse.length:=by
    rw [List.length_reverse]
    have:=chRi_step (l:=l) (i:=l.length - 1) (by omega)
    rw [show l.length - 1+1=l.length by omega] at this
    rw [this]; simp
   have hcl:=chRi_len l l.length
   have hrl:(chRi l l.length).reverse.length=(chRi l l.length).length:=List.length_reverse
   have hcd:chD l=(chRi l l.length).reverse.take (((chRi l l.length).reverse.length:Int) - 1).toNat:=by
    unfold chD chRi
    rw [List.take_length,List.dropLast_eq_take]
    congr 1
    omega
   rw [hcd]
   generalize (chRi l l.length).reverse=w at hne hrl ⊢
   try simp (maxSteps:=9^9) only[go_sem]
   repeat refine AI ?_
   refine SlcW.cut (e:=24) (o:=true) ⟨rfl,rfl,?_⟩
   try simp (maxSteps:=9^9) only[go_sem]
   repeat refine AI ?_
   exact ⟨0,1,rfl,rfl⟩
theorem l06Chain_fn (l:List DV) (hl:∀ v ∈ l,okV v=true) (h0:0 < l.length) (hn:l.length<=1048576):Fn Tryz.prog 128 [⟨.slice tVec,l⟩] true [⟨.slice tVec,(chR l).reverse⟩]:=by
 refine fe Tryz.func128 Tryz.ntmps128 Tryz.results128 fun hwf=>?_
 try simp (maxSteps:=9^9) only[go_sem]
 refine LoopG.intro _ _ _ (fun i:Nat=>⟨[(3,.row 0 0),(7,.sl tVec l),(8,.sc (.int .i64 l.length)),(9,.sc (.int .i64 i))],[(0,.row 24 tVec 0 true (chRi l i).reverse)]⟩) (fun i=>i<=l.length) (fun i=>l.length - i) 0 ?_ (Nat.zero_le _) ?_
 ·exact WK
 ·rintro i hi
  try simp (maxSteps:=9^9) only[go_sem]
  refine CondW_dec (fun hA=>?_) (fun hA=>?_)
  ·have hlt:i < l.length:=by omega
   have hv:=hl _ (nth_mem hlt)
   have hst:=chRi_step hlt
   have hcl:=chRi_len l i
   try simp (maxSteps:=9^9) only[go_sem]
   repeat refine AI ?_
   generalize hvv:nth (t:=tVec) l i=v at hv hst ⊢
   refine LoopG.intro _ _ _ (fun s:List DV=>⟨[(3,.row 0 0),(5,.ptr 1 0),(7,.sl tVec l),(8,.sc (.int .i64 l.length)),(9,.sc (.int .i64 i))],[(1,.box [.sc (.int .i64 v.1),.sc (.int .i64 v.2)]),(0,.row 24 tVec 0 true s.reverse)]⟩) (popOK v (chRi l i)) (fun s=>s.length) (chRi l i) ?_ ⟨rfl,fun x hx=>hl _ (chRi_mem hx),Nat.le_refl _⟩ ?_
   ·exact WK
   ·rintro s ⟨k1,k2,k3⟩
    by_cases h1:s.length<=1
    ·have hrl:s.reverse.length=s.length:=List.length_reverse
     have d1:=decide_eq_false (p:=(s.reverse.length:Int) > 1) (by omega)
     try simp (maxSteps:=9^9) only[go_sem,d1]
     repeat refine AI ?_
     refine LoopK.mk (i+1) ?_ (by omega) (by omega)
     rw [hst,<-k1,popD_1 h1,List.reverse_cons]
     refine Wk.mk [] ?_
     try simp (maxSteps:=9^9) only[go_sem]
     try (and_intros<;>first|rfl|omega|exact ⟨_,rfl⟩)
     all_goals (first|exact ⟨by omega,rfl⟩|exact ⟨rfl,rfl⟩)
    ·obtain ⟨b,a,r,rfl⟩:∃ b a r,s=b :: a :: r:=by
      match s,h1 with
      | b :: a :: r,_=>exact ⟨b,a,r,rfl⟩
      | [a],h=>exact absurd (Nat.le_refl _) h
      | [],h=>exact absurd (Nat.zero_le _) h
     have ea:=rv_a b a r
     have eb:=rv_b b a r
     have et:=rv_take b a r
     have hrl:=rv_len b a r
     have oa:=k2 a (by simp)
     have ob:=k2 b (by simp)
     have hrc:(b :: a :: r).reverse++[v]=(v :: b :: a :: r).reverse:=(List.reverse_cons ..).symm
     have hls:(b :: a :: r).length=r.length+2:=rfl
     generalize hw:(b :: a :: r).reverse=w at ea eb et hrl hrc ⊢
     have d1:=decide_eq_true (p:=(w.length:Int) > 1) (by omega)
     have e2:((w.length:Int) - 2).toNat=r.length:=by omega
     have e1:((w.length:Int) - 1).toNat=r.length+1:=by omega
     have c1:=Turn_fn (nth (t:=tVec) w ((w.length:Int) - 2).toNat) (nth (t:=tVec) w ((w.length:Int) - 1).toNat) v
     rw [trq_ok (by rw [e2,ea]; exact oa) (by rw [e1,eb]; exact ob) hv] at c1
     try simp (maxSteps:=9^9) only[go_sem,d1]
     repeat refine AI ?_
     refine cw c1 ?_
     try simp (maxSteps:=9^9) only[go_sem]
     repeat refine AI ?_
     refine CondW_dec (fun hB=>?_) (fun hB=>?_)
     ·rw [e2,e1,ea,eb] at hB
      try simp (maxSteps:=9^9) only[go_sem]
      repeat refine AI ?_
      refine SlcW.cut (e:=24) (o:=true) ⟨rfl,rfl,?_⟩
      try simp (maxSteps:=9^9) only[go_sem]
      repeat refine AI ?_
      refine LoopK.mk (a :: r) ?_ ⟨(popD_go hB).symm.trans k1,fun x hx=>k2 x (List.mem_cons_of_mem _ hx),by simp at k3 ⊢; omega⟩ (by simp)
      rw [e1,et]
      refine Wk.mk [] ?_
      try simp (maxSteps:=9^9) only[go_sem]
      try (and_intros<;>first|rfl|omega|exact ⟨_,rfl⟩)
      all_goals (first|exact ⟨by omega,rfl⟩|exact ⟨rfl,rfl⟩|trace_state)
     ·rw [e2,e1,ea,eb] at hB
      try simp (maxSteps:=9^9) only[go_sem]
      repeat refine AI ?_
      refine LoopK.mk (i+1) ?_ (by omega) (by omega)
      rw [hst,<-k1,popD_end hB,hrc]
      refine Wk.mk [] ?_
      try simp (maxSteps:=9^9) only[go_sem]
      try (and_intros<;>first|rfl|omega|exact ⟨_,rfl⟩)
      all_goals (first|exact ⟨by omega,rfl⟩|exact ⟨rfl,rfl⟩)
  ·have hcr:(chR l).reverse=(chRi l i).reverse:=by
    unfold chRi
    rw [List.take_of_length_le (by omega)]
   rw [hcr]
   try simp (maxSteps:=9^9) only[go_sem]
theorem l06Less_fn (a b:DV):Fn Tryz.prog 127 [⟨tVec,a⟩,⟨tVec,b⟩] false [⟨.bool,decide (ltV a b)⟩]:=by
 by_cases h1:a.1 < b.1
 ·have d1:=decide_eq_true h1
  rw [decide_eq_true (p:=ltV a b) (.inl h1)]
  refine fe Tryz.func127 Tryz.ntmps127 Tryz.results127 fun hwf=>?_
  try simp (maxSteps:=9^9) only[go_sem,d1]
 ·have d1:=decide_eq_false h1
  by_cases h2:a.1=b.1
  ·have d2:=decide_eq_true h2
   have e:decide (ltV a b)=decide (a.2 < b.2):=by
    by_cases h3:a.2 < b.2
    ·rw [decide_eq_true h3,decide_eq_true (p:=ltV a b) (.inr ⟨h2,h3⟩)]
    ·rw [decide_eq_false h3,decide_eq_false (p:=ltV a b) (fun h=>by unfold ltV at h; omega)]
   rw [e]
   refine fe Tryz.func127 Tryz.ntmps127 Tryz.results127 fun hwf=>?_
   try simp (maxSteps:=9^9) only[go_sem,d1,d2]
  ·have d2:=decide_eq_false h2
   rw [decide_eq_false (p:=ltV a b) (fun h=>by unfold ltV at h; omega)]
   refine fe Tryz.func127 Tryz.ntmps127 Tryz.results127 fun hwf=>?_
   try simp (maxSteps:=9^9) only[go_sem,d1,d2]
def bkD (l:List DV) (n:Nat):List DV:=l.reverse.take n
theorem bkD_step {l:List DV} {n:Nat} (h:n < l.length):bkD l (n+1)=bkD l n++[nth (t:=tVec) l (l.length - 1 - n)]:=by
 unfold bkD
 rw [List.take_add_one,List.getElem?_eq_getElem (by rw [List.length_reverse]; exact h),List.getElem_reverse,nth_lt (by omega)]
 rfl
theorem bkD_len {l:List DV} {n:Nat} (h:n<=l.length):(bkD l n).length=n:=by
 unfold bkD; rw [List.length_take,List.length_reverse]; omega
theorem bkD_all {l:List DV} {n:Nat} (h:l.length<=n):bkD l n=l.reverse:=by
 unfold bkD; rw [List.take_of_length_le (by rw [List.length_reverse]; exact h)]
theorem hullD_lt3 {l:List DV} (h:(srtD l).length < 3):hullD l=srtD l:=by
 unfold hullD
 split
 ·rfl
 ·match hs:srtD l,h with
  | [],_=>rfl
  | [a],_=>exact absurd (show (srtD l).length < 2 by rw [hs]; exact Nat.lt_succ_self _) (by assumption)
  | [a,b],_=>rfl
theorem chD_take (l:List DV):chD l=(chR l).reverse.take ((chR l).reverse.length - 1):=List.dropLast_eq_take
theorem chR_len (l:List DV):(chR l).length<=l.length:=by
 have:=chRi_len l l.length
 unfold chRi at this
 rwa [List.take_length] at this
theorem chR_pos (l:List DV) (h:0 < l.length):0 < (chR l).length:=by
 have:=chRi_step (l:=l) (i:=l.length - 1) (by omega)
 rw [show l.length - 1+1=l.length by omega] at this
 unfold chRi at this
 rw [List.take_length] at this
 rw [this]; simp
set_option maxHeartbeats 1000000 in
theorem specHull_fn (l:List DV) (hl:∀ v ∈ l,okV v=true) (hn:l.length<=64):Fn Tryz.prog 82 [⟨.slice tVec,l⟩] true [⟨.slice tVec,hullD l⟩]:=by
 have d0:=decide_eq_false (p:=(l.length:Int) > 64) (by omega)
 refine fe Tryz.func82 Tryz.ntmps82 Tryz.results82 fun hwf=>?_
 try simp (maxSteps:=9^9) only[go_sem,d0]
 refine LoopG.intro _ _ _ (fun i:Nat=>⟨[(3,.row 0 0),(17,.sl tVec l),(18,.sc (.int .i64 l.length)),(19,.sc (.int .i64 i))],[(0,.row 24 tVec 0 true (srtI l i))]⟩) (fun i=>i<=l.length) (fun i=>l.length - i) 0 ?_ (Nat.zero_le _) ?_
 ·exact WK
 ·rintro i hi
  try simp (maxSteps:=9^9) only[go_sem]
  refine CondW_dec (fun hA=>?_) (fun hA=>?_)
  ·have hlt:i < l.length:=by omega
   have hv:=hl _ (nth_mem hlt)
   have hst:=srtI_step hlt
   have hcl:=srtI_len l i
   have c1:=IsValidVec_fn (nth (t:=tVec) l i)
   rw [hv] at c1
   generalize hvv:nth (t:=tVec) l i=v at hv hst c1 ⊢
   generalize hss:srtI l i=s at hst hcl ⊢
   try simp (maxSteps:=9^9) only[go_sem,hvv]
   repeat refine AI ?_
   repeat refine AI ?_
   refine cw c1 ?_
   try simp (maxSteps:=9^9) only[go_sem]
   refine LoopG.intro _ _ _ (fun j:Nat=>⟨[(3,.row 0 0),(5,.ptr 1 0),(6,.sc (.int .i64 j)),(17,.sl tVec l),(18,.sc (.int .i64 l.length)),(19,.sc (.int .i64 i))],[(1,.box [.sc (.int .i64 v.1),.sc (.int .i64 v.2)]),(0,.row 24 tVec 0 true s)]⟩) (fun j=>j<=s.length/\∀ j',j' < j->ltV (nth (t:=tVec) s j') v) (fun j=>s.length - j) 0 ?_ ⟨Nat.zero_le _,fun j h=>absurd h (Nat.not_lt_zero _)⟩ ?_
   ·exact WK
   ·rintro j ⟨k1,k2⟩
    have hins:=insD_at (p:=v) (l:=s) (i:=j) k1 k2
    have e5:s.take j++v :: s.drop j=s.take j++[v]++s.drop j:=by rw [List.append_assoc]; rfl
    have hlm:(s.take j).length=j:=by rw [List.length_take]; omega
    have hlm2:(s.take j++[v]).length=j+1:=by rw [List.length_append,hlm]; rfl
    have hlm3:(s.drop j).length=s.length - j:=List.length_drop
    by_cases hj:j < s.length
    ·have d1:=decide_eq_true (p:=(j:Int) < (s.length:Int)) (by omega)
     have c2:=l06Less_fn (nth (t:=tVec) s j) v
     by_cases hlt2:ltV (nth (t:=tVec) s j) v
     ·rw [decide_eq_true hlt2] at c2
      try simp (maxSteps:=9^9) only[go_sem,d1]
      repeat refine AI ?_
      refine cw c2 ?_
      try simp (maxSteps:=9^9) only[go_sem]
      repeat refine AI ?_
      refine LoopK.mk (j+1) ?_ ⟨by omega,fun j' hj'=>?_⟩ (by omega)
      ·exact WK
      ·by_cases h:j' < j
       ·exact k2 j' h
       ·rw [show j'=j by omega]; exact hlt2
     ·rw [decide_eq_false hlt2] at c2
      have hins:=hins fun _=>hlt2
      by_cases he:nth (t:=tVec) s j=v
      ·have e3:(decide ((nth (t:=tVec) s j).1=v.1) && decide ((nth (t:=tVec) s j).2=v.2))=true:=by rw [he]; simp
       rw [if_pos ⟨hj,he⟩] at hins
       try simp (maxSteps:=9^9) only[go_sem,d1]
       repeat refine AI ?_
       refine cw c2 ?_
       try simp (maxSteps:=9^9) only[go_sem]
       repeat refine AI ?_
       try simp (maxSteps:=9^9) only[go_sem,d1,e3]
       repeat refine AI ?_
       refine LoopK.mk (i+1) ?_ (by omega) (by omega)
       rw [hst,hins]
       exact WK
      ·have e3:(decide ((nth (t:=tVec) s j).1=v.1) && decide ((nth (t:=tVec) s j).2=v.2))=false:=by
        by_cases q1:(nth (t:=tVec) s j).1=v.1
        ·by_cases q2:(nth (t:=tVec) s j).2=v.2
         ·exact absurd (Prod.ext q1 q2) he
         ·rw [decide_eq_false q2,Bool.and_false]
        ·rw [decide_eq_false q1,Bool.false_and]
       rw [if_neg (fun h=>he h.2)] at hins
       try simp (maxSteps:=9^9) only[go_sem,d1]
       repeat refine AI ?_
       refine cw c2 ?_
       try simp (maxSteps:=9^9) only[go_sem]
       repeat refine AI ?_
       try simp (maxSteps:=9^9) only[go_sem,d1,e3]
       repeat refine AI ?_
       refine SlcW.keep ?_
       try simp (maxSteps:=9^9) only[go_sem]
       repeat refine AI ?_
       refine SlcW.keep ?_
       try simp (maxSteps:=9^9) only[go_sem,List.take_length]
       repeat refine AI ?_
       refine LoopK.mk (i+1) ?_ (by omega) (by omega)
       rw [hst,hins,e5]
       refine Wk.mk [(0,2)] ?_
       try simp (maxSteps:=9^9) only[go_sem]
       try (and_intros<;>first|rfl|omega|exact ⟨_,rfl⟩)
       all_goals (first|exact ⟨by omega,rfl⟩|exact ⟨rfl,rfl⟩)
    ·have d1:=decide_eq_false (p:=(j:Int) < (s.length:Int)) (by omega)
     have hins:=hins fun h=>absurd h hj
     rw [if_neg (fun h=>hj h.1)] at hins
     try simp (maxSteps:=9^9) only[go_sem,d1]
     repeat refine AI ?_
     try simp (maxSteps:=9^9) only[go_sem,d1]
     repeat refine AI ?_
     refine SlcW.keep ?_
     try simp (maxSteps:=9^9) only[go_sem]
     repeat refine AI ?_
     refine SlcW.keep ?_
     try simp (maxSteps:=9^9) only[go_sem,List.take_length]
     repeat refine AI ?_
     refine LoopK.mk (i+1) ?_ (by omega) (by omega)
     rw [hst,hins,e5]
     refine Wk.mk [(0,2)] ?_
     try simp (maxSteps:=9^9) only[go_sem]
     try (and_intros<;>first|rfl|omega|exact ⟨_,rfl⟩)
     all_goals (first|exact ⟨by omega,rfl⟩|exact ⟨rfl,rfl⟩)
  ·have hii:i=l.length:=by omega
   subst hii
   rw [srtI_all]
   have hsm:∀ v ∈ srtD l,okV v=true:=fun v hv=>hl v (srtD_mem.1 hv)
   have hsl:=srtD_len l
   by_cases h3:(srtD l).length < 3
   ·rw [hullD_lt3 h3]
    generalize srtD l=s at h3 hsl ⊢
    have d3:=decide_eq_true (p:=(s.length:Int) < 3) (by omega)
    try simp (maxSteps:=9^9) only[go_sem,d3]
   ·have hh:hullD l=chD (srtD l)++chD (srtD l).reverse:=by unfold hullD; rw [if_neg (by omega)]
    rw [hh,chD_take,chD_take]
    generalize srtD l=s at h3 hsl hsm ⊢
    have d3:=decide_eq_false (p:=(s.length:Int) < 3) (by omega)
    have hrl:s.reverse.length=s.length:=List.length_reverse
    have c3:=l06Chain_fn s hsm (by omega) (by omega)
    have c4:=l06Chain_fn s.reverse (fun v hv=>hsm v (List.mem_reverse.1 hv)) (by omega) (by omega)
    try simp (maxSteps:=9^9) only[go_sem,d3]
    repeat refine AI ?_
    refine LoopG.intro _ _ _ (fun n:Nat=>⟨[(3,.row 0 0),(8,.row 1 0),(9,.sc (.int .i64 ((s.length:Int) - 1 - n)))],[(1,.row 24 tVec 0 true (bkD s n)),(0,.row 24 tVec 0 true s)]⟩) (fun n=>n<=s.length) (fun n=>s.length - n) 0 ?_ (Nat.zero_le _) ?_
    ·exact WK
    ·rintro n hn2
     try simp (maxSteps:=9^9) only[go_sem]
     refine CondW_dec (fun hB=>?_) (fun hB=>?_)
     ·have hbl:=bkD_len (l:=s) (n:=n) (by omega)
      have hbs:=bkD_step (l:=s) (n:=n) (by omega)
      have ei:((s.length:Int) - 1 - n).toNat=s.length - 1 - n:=by omega
      try simp (maxSteps:=9^9) only[go_sem]
      repeat refine AI ?_
      rw [ei]
      try simp (maxSteps:=9^9) only[go_sem,hbl]
      repeat refine AI ?_
      refine LoopK.mk (n+1) ?_ (by omega) (by omega)
      rw [hbs]
      exact WK
     ·rw [bkD_all (by omega)]
      have q1:=chR_len s
      have q2:=chR_pos s (by omega)
      have q3:=chR_len s.reverse
      have q4:=chR_pos s.reverse (by omega)
      have q5:(chR s).reverse.length=(chR s).length:=List.length_reverse
      have q6:(chR s.reverse).reverse.length=(chR s.reverse).length:=List.length_reverse
      generalize (chR s).reverse=lo at c3 q5 ⊢
      generalize (chR s.reverse).reverse=hi at c4 q6 ⊢
      have e7:((lo.length:Int) - 1).toNat=lo.length - 1:=by omega
      have e8:((hi.length:Int) - 1).toNat=hi.length - 1:=by omega
      have q7:(lo.take (lo.length - 1)).length=lo.length - 1:=by rw [List.length_take]; omega
      have q8:(hi.take (hi.length - 1)).length=hi.length - 1:=by rw [List.length_take]; omega
      try simp (maxSteps:=9^9) only[go_sem]
      repeat refine AI ?_
      refine cw c3 ?_
      try simp (maxSteps:=9^9) only[go_sem]
      repeat refine AI ?_
      refine cw c4 ?_
      try simp (maxSteps:=9^9) only[go_sem]
      repeat refine AI ?_
      refine SlcW.keep ?_
      try simp (maxSteps:=9^9) only[go_sem]
      rw [e7]
      try simp (maxSteps:=9^9) only[go_sem,q7]
      repeat refine AI ?_
      refine SlcW.keep ?_
      try simp (maxSteps:=9^9) only[go_sem]
      rw [e8]
      try simp (maxSteps:=9^9) only[go_sem,q7,q8]
      repeat refine AI ?_
      try simp (maxSteps:=9^9) only[go_sem,q7,q8]
      omega
end Go.Proofs.YtbopoblkoainjaaGreat.DW

namespace Go.Proofs.YtbopoblkoainjaaGreat.DW
open Go.RowKit Go.Sort
def encV (x:Int × Int):List Value:=[.int .i64 x.1,.int .i64 x.2]
theorem rep_vec {w:World} {cs:List Value} {x:DV} {f:List Nat} (h:tVec.rp.rep w cs x f):cs=encV x/\f=[]/\I64 x.1/\I64 x.2:=by
 obtain ⟨c1,c2,f1,f2,rfl,rfl,⟨rfl,rfl,h1⟩,⟨rfl,rfl,h2⟩⟩:=h
 exact ⟨rfl,rfl,h1,h2⟩
theorem vec_rep {w:World} {x:DV} (h1:I64 x.1) (h2:I64 x.2):tVec.rp.rep w (encV x) x [] :=
 ⟨_,_,[],[],rfl,rfl,⟨rfl,rfl,h1⟩,⟨rfl,rfl,h2⟩⟩
theorem vec_size:tVec.rp.size=2:=rfl
theorem encV_at (x:DV) (j:Nat) (h:j < 2):(encV x)[j]? = some ((encV x)[j]!):=by
 match j,h with
 | 0,_=>rfl
 | 1,_=>rfl
theorem flat_at (l:List DV) {t:Nat} (h:t < l.length * 2):(flatK encV 2 l.toArray)[t]! = (encV (l[t / 2]'(by omega)))[t % 2]!:=by
 rw [get_flatK encV 2 l.toArray t (by simpa using h)]
 rw [getElem!_pos l.toArray (t / 2) (by simp; omega)]
 rfl
theorem row_in {base:Nat} {w:World} {e:TypeId} {v:Value} {l:List DV} {fps:List (List Nat)} (h:GrowF tVec.rp base w e v l fps) (h0:0 < l.length) :
  ∃ g cap cur,v=.slice (some ⟨g,0,none⟩) l.length cap/\base<=g/\w.heap[g]? = some (.cells cur e (0,0))/\l.length<=cap/\cap<=maxLen/\cur.size=cap * 2/\HoldsK encV 2 w g 0 l.toArray/\∀ x ∈ l,I64 x.1/\I64 x.2:=by
 obtain ⟨xs,⟨hxl,hor⟩,hfl,he⟩:=h
 rcases hor with ⟨_,hn⟩|⟨g,cap,cur,hv,hb,hg,hnc,hcm,hcs,htk⟩
 ·omega
 rw [vec_size] at hxl hcs htk
 refine ⟨g,cap,cur,hv,hb,hg,hnc,hcm,hcs,fun j hj=>?_,fun x hx=>?_⟩
 ·have hj2:j < l.length * 2:=by simpa using hj
  refine ⟨?_,frozen_of_row w g _ cur e hg⟩
  rw [Nat.zero_add,cell_of_row w g j cur e (0,0) hg,<-Array.getElem?_toList]
  show _=some ((flatK encV 2 l.toArray)[j]!)
  rw [flat_at l hj2]
  obtain ⟨f,cs,_,h2,h3⟩:=he (j / 2) (l[j / 2]'(by omega)) (List.getElem?_eq_getElem _)
  obtain ⟨rfl,_⟩:=rep_vec h2
  have:=h3 (j % 2) _ (encV_at _ (j % 2) (by omega))
  rw [vec_size,show j / 2 * 2+j % 2=j by omega,<-htk,List.getElem?_take,if_pos hj2] at this
  exact this
 ·obtain ⟨i,hi,rfl⟩:=List.getElem_of_mem hx
  obtain ⟨f,cs,_,h2,_⟩:=he i l[i] (List.getElem?_eq_getElem hi)
  exact (rep_vec h2).2.2
theorem row_out {base:Nat} {w w':World} {e:TypeId} {g cap n:Nat} {cur:Array Value} {os:Array Obj} {d:List DV} (hb:base<=g) (hg:w.heap[g]? = some (.cells cur e (0,0))) (hcs:cur.size=cap * 2) (hcm:cap<=maxLen) (hd:d.length<=cap) (hI:∀ x ∈ d,I64 x.1/\I64 x.2) (m:Nat) (hm:m<=d.length)
  (hw:w'=sortWorldK encV 2 w g 0 n d.toArray os) :
  GrowF tVec.rp base w' e (.slice (some ⟨g,0,none⟩) m cap) (d.take m) (List.replicate m [])/\w.grownBy w' (some g):=by
 have hgs:g < w.heap.size:=(Array.getElem?_eq_some_iff.1 hg).1
 have hg':w'.heap[g]? = some (.cells (Go.Sort.putCells id 0 (flatK encV 2 d.toArray) cur) e (0,0)):=by
  subst hw
  unfold sortWorldK putRowK putRow mapBlock grow
  have hsz:g < (Sort.ahead w n).heap.size:=hgs
  simp only [heap_ahead]
  rw [Array.getElem?_append_left (by rw [Array.size_modify]; exact hgs),Array.getElem?_modify,if_pos rfl,hg]
  rfl
 have hlt:(d.take m).length=m:=by rw [List.length_take]; omega
 have hcell:∀ t,t < d.length * 2->(Go.Sort.putCells id 0 (flatK encV 2 d.toArray) cur).toList[t]? = some ((flatK encV 2 d.toArray)[t]!):=by
  intro t ht
  rw [Array.getElem?_toList]
  unfold Go.Sort.putCells
  rw [Array.getElem?_mapIdx,Array.getElem?_eq_getElem (by omega:t < cur.size),Option.map_some,if_pos ⟨Nat.zero_le _,by rw [size_flatK]; simpa using ht⟩]
  rfl
 have hps:(Go.Sort.putCells id 0 (flatK encV 2 d.toArray) cur).size=cap * 2:=by unfold Go.Sort.putCells; rw [Array.size_mapIdx,hcs]
 refine ⟨⟨(Go.Sort.putCells id 0 (flatK encV 2 d.toArray) cur).toList.take (m * 2),⟨?_,.inr ⟨g,cap,_,?_,hb,hg',?_,hcm,hps,?_⟩⟩,?_,fun i x hx=>?_⟩,?_⟩
 ·rw [hlt,vec_size,List.length_take,Array.length_toList,hps]; omega
 ·rw [hlt]
 ·rw [hlt]; omega
 ·rw [hlt,vec_size]
 ·rw [hlt,List.length_replicate]
 ·have hi:i < m:=by have:=(List.getElem?_eq_some_iff.1 hx).1; omega
  rw [List.getElem?_take,if_pos hi] at hx
  obtain ⟨hid,hx⟩:=List.getElem?_eq_some_iff.1 hx
  subst hx
  obtain ⟨i1,i2⟩:=hI _ (List.getElem_mem hid)
  refine ⟨[],encV d[i],by simp [hi],vec_rep i1 i2,fun j v hj=>?_⟩
  have hj2:j < 2:=(List.getElem?_eq_some_iff.1 hj).1
  rw [vec_size,List.getElem?_take,if_pos (by omega),hcell _ (by omega),flat_at d (by omega)]
  have e1:(i * 2+j) / 2=i:=by omega
  have e2:(i * 2+j) % 2=j:=by omega
  simp only [e1,e2]
  rw [<-encV_at _ j hj2,hj]
 ·subst hw
  refine ⟨rfl,rfl,rfl,?_,fun k hk hne=>?_⟩
  ·rw [sortWorldK,size_grow]
   have:(putRowK encV 2 (Sort.ahead w n) g 0 d.toArray).heap.size=w.heap.size:=by unfold putRowK; rw [size_putRow]; rfl
   omega
  ·have hkg:g ≠ k:=fun h=>hne (by rw [h])
   unfold sortWorldK putRowK putRow mapBlock grow
   simp only [heap_ahead]
   rw [Array.getElem?_append_left (by rw [Array.size_modify]; exact hk),Array.getElem?_modify,if_neg hkg]
theorem FnR.of {P:Program} {f:FuncId} {xs:List Cst} {e:TypeId} {l l':List DV} (he:∀ vs w,(callFunc f vs).run P w=.ok (.enter f vs) w) (h0:0 < l.length) (ret:Bool) (d:(∀ x ∈ l,I64 x.1/\I64 x.2)->∀ (w:World) (g cap:Nat),g < w.heap.size->l.length<=cap->cap<=maxLen->HoldsK encV 2 w g 0 l.toArray →
   Calls P f (.slice (some ⟨g,0,none⟩) l.length cap :: xs.map Cst.val).toArray w fun en w'=>∃ (dd:List DV) (n:Nat) (os:Array Obj),en=.returned (if ret then .slice (some ⟨g,0,none⟩) l'.length cap else .tuple #[])/\(ret=false->l'.length=l.length)/\dd.length=l.length/\(∀ x ∈ dd,x ∈ l\/x=(0,0))/\l'=dd.take l'.length/\l'.length<=dd.length/\w'=sortWorldK encV 2 w g 0 n dd.toArray os):FnR P f xs e tVec l l' ret:=by
 refine ⟨he,rfl,fun w base v fps hone hgr=>?_⟩
 obtain ⟨g,cap,cur,rfl,hb,hg,hnc,hcm,hcs,hH,hI⟩:=row_in hgr h0
 refine (d hI w g cap (Array.getElem?_eq_some_iff.1 hg).1 hnc hcm hH).mono ?_
 rintro en w' ⟨dd,n,os,h1,h2,h3,h4,h5,h6,h7⟩
 have hI2:∀ x ∈ dd,I64 x.1/\I64 x.2:=fun x hx=>by
  rcases h4 x hx with h|rfl
  ·exact hI x h
  ·exact ⟨(by show I64 0; unfold I64; omega),(by show I64 0; unfold I64; omega)⟩
 obtain ⟨k1,k2⟩:=row_out (base:=base) hb hg hcs hcm (by omega) hI2 l'.length h6 h7
 rw [<-h5] at k1
 exact ⟨.slice (some ⟨g,0,none⟩) l'.length cap,_,h1,fun hr=>by rw [h2 hr],rfl,rfl,k1,k2⟩
end Go.Proofs.YtbopoblkoainjaaGreat.DW

namespace Go.Proofs.YtbopoblkoainjaaGreat.DW
open Go.RowKit Go.Shelf
def sortL_ren:Go.Shelf.Ren:=⟨fun|6=>174|14=>183|15=>184|20=>186|21=>187|22=>188|23=>189|24=>190|25=>191|26=>192|27=>193|28=>194|29=>195|46=>199|47=>200|48=>201|49=>202|50=>203|57=>204|n=>n,fun|0=>0|3=>3|4=>4|5=>5|9=>9|22=>25|23=>167|24=>24|25=>168|39=>85|45=>176|46=>177|47=>178|50=>159|53=>183|55=>185|66=>188|70=>192|76=>194|77=>140|n=>n,fun n=>n⟩
theorem sortL:SlLaysF0.n6 Tryz.prog sortL_ren where
 mixed:=by kernel_rfl
 f6:=⟨"slices.SortFunc[[]loop.example/g00811/impl.Vec,loop.example/g00811/impl.Vec]",by decide,Tryz.func174.trans (congrArg some (by kernel_rfl))⟩
 f14:=⟨"slices.pdqsortCmpFunc[loop.example/g00811/impl.Vec]",by decide,Tryz.func183.trans (congrArg some (by kernel_rfl))⟩
 f15:=Tryz.func184.trans (congrArg some (by kernel_rfl))
 f20:=⟨"slices.insertionSortCmpFunc[loop.example/g00811/impl.Vec]",by decide,Tryz.func186.trans (congrArg some (by kernel_rfl))⟩
 f21:=⟨"slices.heapSortCmpFunc[loop.example/g00811/impl.Vec]",by decide,Tryz.func187.trans (congrArg some (by kernel_rfl))⟩
 f22:=⟨"slices.breakPatternsCmpFunc[loop.example/g00811/impl.Vec]",by decide,Tryz.func188.trans (congrArg some (by kernel_rfl))⟩
 f23:=⟨"slices.choosePivotCmpFunc[loop.example/g00811/impl.Vec]",by decide,Tryz.func189.trans (congrArg some (by kernel_rfl))⟩
 f24:=⟨"slices.reverseRangeCmpFunc[loop.example/g00811/impl.Vec]",by decide,Tryz.func190.trans (congrArg some (by kernel_rfl))⟩
 f25:=⟨"slices.partialInsertionSortCmpFunc[loop.example/g00811/impl.Vec]",by decide,Tryz.func191.trans (congrArg some (by kernel_rfl))⟩
 f26:=⟨"slices.partitionEqualCmpFunc[loop.example/g00811/impl.Vec]",by decide,Tryz.func192.trans (congrArg some (by kernel_rfl))⟩
 f27:=⟨"slices.partitionCmpFunc[loop.example/g00811/impl.Vec]",by decide,Tryz.func193.trans (congrArg some (by kernel_rfl))⟩
 f28:=Tryz.func194.trans (congrArg some (by kernel_rfl))
 f29:=Tryz.func195.trans (congrArg some (by kernel_rfl))
 f46:=⟨"slices.siftDownCmpFunc[loop.example/g00811/impl.Vec]",by decide,Tryz.func199.trans (congrArg some (by kernel_rfl))⟩
 f47:=Tryz.func200.trans (congrArg some (by kernel_rfl))
 f48:=Tryz.func201.trans (congrArg some (by kernel_rfl))
 f49:=⟨"slices.medianAdjacentCmpFunc[loop.example/g00811/impl.Vec]",by decide,Tryz.func202.trans (congrArg some (by kernel_rfl))⟩
 f50:=⟨"slices.medianCmpFunc[loop.example/g00811/impl.Vec]",by decide,Tryz.func203.trans (congrArg some (by kernel_rfl))⟩
 f57:=⟨"slices.order2CmpFunc[loop.example/g00811/impl.Vec]",by decide,Tryz.func204.trans (congrArg some (by kernel_rfl))⟩
 t0:=Tryz.underlying0
 a0:=Tryz.isAgg0
 z0:=Tryz.sizeOf0
 v0:=Tryz.zeroValue0
 t3:=Tryz.underlying3
 a3:=Tryz.isAgg3
 z3:=Tryz.sizeOf3
 v3:=Tryz.zeroValue3
 t4:=Tryz.underlying4
 a4:=Tryz.isAgg4
 z4:=Tryz.sizeOf4
 v4:=Tryz.zeroValue4
 t5:=Tryz.underlying5
 a5:=Tryz.isAgg5
 z5:=Tryz.sizeOf5
 v5:=Tryz.zeroValue5
 t9:=Tryz.underlying9
 a9:=Tryz.isAgg9
 z9:=Tryz.sizeOf9
 v9:=Tryz.zeroValue9
 t22:=Tryz.underlying25
 a22:=Tryz.isAgg25
 z22:=Tryz.sizeOf25
 v22:=Tryz.zeroValue25
 t25:=Tryz.underlying168
 a25:=Tryz.isAgg168
 z25:=Tryz.sizeOf168
 v25:=Tryz.zeroValue168
 t39:=Tryz.underlying85
 a39:=Tryz.isAgg85
 z39:=Tryz.sizeOf85
 v39:=Tryz.zeroValue85
 t45:=Tryz.underlying176
 a45:=Tryz.isAgg176
 z45:=Tryz.sizeOf176
 v45:=Tryz.zeroValue176
 t46:=Tryz.underlying177
 a46:=Tryz.isAgg177
 z46:=Tryz.sizeOf177
 v46:=Tryz.zeroValue177
 t50:=Tryz.underlying159
 a50:=Tryz.isAgg159
 z50:=Tryz.sizeOf159
 v50:=Tryz.zeroValue159
 t53:=Tryz.underlying183
 a53:=Tryz.isAgg183
 z53:=Tryz.sizeOf183
 v53:=Tryz.zeroValue183
 t55:=Tryz.underlying185
 a55:=Tryz.isAgg185
 z55:=Tryz.sizeOf185
 v55:=Tryz.zeroValue185
 t66:=Tryz.underlying188
 a66:=Tryz.isAgg188
 z66:=Tryz.sizeOf188
 v66:=Tryz.zeroValue188
 t70:=Tryz.underlying192
 a70:=Tryz.isAgg192
 z70:=Tryz.sizeOf192
 v70:=Tryz.zeroValue192
 t76:=Tryz.underlying194
 a76:=Tryz.isAgg194
 z76:=Tryz.sizeOf194
 v76:=Tryz.zeroValue194
 t77:=Tryz.underlying140
 a77:=Tryz.isAgg140
 z77:=Tryz.sizeOf140
 v77:=Tryz.zeroValue140
def revL_ren:Go.Shelf.Ren:=⟨fun|35=>178|n=>n,fun|0=>0|3=>3|4=>4|22=>25|23=>24|n=>n,fun n=>n⟩
theorem revL:SlLaysE0.n35 Tryz.prog revL_ren where
 mixed:=by kernel_rfl
 f35:=⟨"slices.Reverse[[]loop.example/g00811/impl.Vec,loop.example/g00811/impl.Vec]",by decide,Tryz.func178.trans (congrArg some (by kernel_rfl))⟩
 t0:=Tryz.underlying0
 a0:=Tryz.isAgg0
 z0:=Tryz.sizeOf0
 v0:=Tryz.zeroValue0
 t3:=Tryz.underlying3
 a3:=Tryz.isAgg3
 z3:=Tryz.sizeOf3
 v3:=Tryz.zeroValue3
 t4:=Tryz.underlying4
 a4:=Tryz.isAgg4
 z4:=Tryz.sizeOf4
 v4:=Tryz.zeroValue4
 t22:=Tryz.underlying25
 a22:=Tryz.isAgg25
 z22:=Tryz.sizeOf25
 v22:=Tryz.zeroValue25
end Go.Proofs.YtbopoblkoainjaaGreat.DW

namespace Go.Proofs.YtbopoblkoainjaaGreat.DW
open Go.RowKit Go.Sort Go.Shelf
abbrev OV:={ v:DV // okV v=true }
instance:Inhabited OV:=⟨⟨(0,0),by decide⟩⟩
def encO (x:OV):List Value:=encV x.1
def cfO (x y:OV):Int:=cfV x.1 y.1
set_option maxHeartbeats 1000000 in
theorem compareVecs_any (a b:DV) (ha:okV a=true) (hb:okV b=true) (W:World):Calls Tryz.prog 175 #[.agg #[.int .i64 a.1,.int .i64 a.2],.agg #[.int .i64 b.1,.int .i64 b.2]] W fun e w'=>e=.returned (.int .i64 (cfV a b))/\∃ q os',w'=grow (W.drewN q) os':=by
 obtain ⟨a1,a2⟩:=a
 obtain ⟨b1,b2⟩:=b
 obtain ⟨p1,p2,p3,p4⟩:=okV_b ha
 obtain ⟨q1,q2,q3,q4⟩:=okV_b hb
 simp only at p1 p2 p3 p4 q1 q2 q3 q4
 clear ha hb
 unfold cfV
 by_cases h:a1=b1
 ·subst h
  simp only [if_true]
  go_enter Tryz.func175,Tryz.ntmps175
  go_wp2
  go_ret
  exact ⟨rfl,0,_,by rw [alloc_eq_grow,alloc_eq_grow,grow_grow]; rfl⟩
 ·simp only [h,if_false]
  go_enter Tryz.func175,Tryz.ntmps175
  go_wp2
  go_ret
  exact ⟨rfl,0,_,by rw [alloc_eq_grow,alloc_eq_grow,grow_grow]; rfl⟩
theorem cmpLays (blk off size:Nat) (w:World):CmpLays Tryz.prog 175 #[] encO 2 cfO blk off size w :=
 fun _ _ _ _ x y=>compareVecs_any x.1 y.1 x.2 y.2 _
theorem flat_val (d:List OV):flatK encO 2 d.toArray=flatK encV 2 (d.map Subtype.val).toArray:=by
 refine ext_get! (by simp) fun t ht=>?_
 have ht':t < d.length * 2:=by simpa using ht
 rw [get_flatK _ _ _ t (by simpa using ht'),get_flatK _ _ _ t (by simpa using ht'),getElem!_pos d.toArray (t / 2) (by simp; omega),getElem!_pos (d.map Subtype.val).toArray (t / 2) (by simp; omega),List.getElem_toArray,List.getElem_toArray,List.getElem_map]
 rfl
theorem swoO:SWO (ltOf cfO) where
 irrefl x:=by
  have:=cfV_lt x.1 x.1
  show decide (cfV x.1 x.1 < 0)=false
  rw [decide_eq_false_iff_not,this]
  exact ltV_irrefl _
 trans x y z h1 h2:=by
  have h1:=(cfV_lt x.1 y.1).1 (of_decide_eq_true h1)
  have h2:=(cfV_lt y.1 z.1).1 (of_decide_eq_true h2)
  exact decide_eq_true ((cfV_lt x.1 z.1).2 (ltV_trans h1 h2))
 ntrans x y z h1 h2:=by
  have h1:=fun h=>of_decide_eq_false h1 ((cfV_lt x.1 y.1).2 h)
  have h2:=fun h=>of_decide_eq_false h2 ((cfV_lt y.1 z.1).2 h)
  refine decide_eq_false fun h=>?_
  have h:=(cfV_lt x.1 z.1).1 h
  rcases ltV_tri x.1 y.1 with k|k|k
  ·exact h1 k
  ·exact h2 (k ▸ h)
  ·exact h2 (ltV_trans k h)
theorem totO (x y:OV) (h1:(ltOf cfO) x y=false) (h2:(ltOf cfO) y x=false):x=y:=by
 have h1:=fun h=>of_decide_eq_false h1 ((cfV_lt x.1 y.1).2 h)
 have h2:=fun h=>of_decide_eq_false h2 ((cfV_lt y.1 x.1).2 h)
 rcases ltV_tri x.1 y.1 with k|k|k
 ·exact (h1 k).elim
 ·exact Subtype.ext k
 ·exact (h2 k).elim
theorem exO:∀ l:List DV,(∀ v ∈ l,okV v=true)->∃ d:List OV,d.map Subtype.val=l
 | [],_=>⟨[],rfl⟩
 | v :: l,h=>by
  obtain ⟨d,hd⟩:=exO l fun x hx=>h x (List.mem_cons_of_mem _ hx)
  exact ⟨⟨v,h v List.mem_cons_self⟩ :: d,by rw [List.map_cons,hd]⟩
theorem sort_fn (l:List DV) (hl:∀ v ∈ l,okV v=true) (h0:0 < l.length) (hn:l.length<=1048576):FnR Tryz.prog 174 [.fn 175] 24 tVec l (l.mergeSort leB) false:=by
 obtain ⟨d,rfl⟩:=exO l hl
 refine FnR.of (enters_of Tryz.func174 (by kernel_rfl) rfl) h0 false fun hI w g cap hg hc hcm hH=>?_
 have hH':HoldsK encO 2 w g 0 d.toArray:=by unfold HoldsK; rw [flat_val]; exact hH
 have hdl:d.toArray.size=(d.map Subtype.val).length:=by simp
 have eg:∀ args w,(callFunc 175 args).run Tryz.prog w=.ok (.enter 175 args) w:=enters_of Tryz.func175 (by kernel_rfl) rfl
 have hcon:=AnyQ.slices_SortFunc_total sortL 2 Tryz.isAgg24 Tryz.sizeOf24 encO (fun _=>rfl) (fun x v hv=>by simp [encO,encV] at hv; rcases hv with rfl|rfl<;>rfl) cfO swoO 175 #[] g 0 cap d.toArray w eg (cmpLays g 0 _ w) hH' hg (by rw [hdl]; omega) totO
 rw [hdl] at hcon
 have hms:((d.mergeSort fun x y=>!(ltOf cfO) y x).map Subtype.val)=(d.map Subtype.val).mergeSort leB:=List.map_mergeSort fun a _ b _=>rfl
 refine Calls.mono hcon ?_
 rintro e w' ⟨rfl,n,os,rfl⟩
 refine ⟨(d.map Subtype.val).mergeSort leB,n,os,rfl,fun _=>List.length_mergeSort _,List.length_mergeSort _,fun x hx=>.inl ((List.mergeSort_perm _ _).mem_iff.1 hx),(List.take_length ..).symm,Nat.le_refl _,?_⟩
 unfold sortWorldK putRowK
 rw [<-hms,<-flat_val]
theorem reverse_fn (l:List DV) (h0:0 < l.length) (hn:l.length<=1048576):FnR Tryz.prog 178 [] 24 tVec l l.reverse false:=by
 refine FnR.of (enters_of Tryz.func178 (by kernel_rfl) rfl) h0 false fun hI w g cap hg hc hcm hH=>?_
 have hcon:=AnyQ.slices_Reverse revL 2 Tryz.isAgg24 Tryz.sizeOf24 encV (fun _=>rfl) (fun x v hv=>by simp [encV] at hv; rcases hv with rfl|rfl<;>rfl) g 0 cap l.toArray w hH (by simp; omega)
 have hdl:l.toArray.size=l.length:=by simp
 rw [hdl] at hcon
 refine Calls.mono hcon ?_
 rintro e w' ⟨rfl,n,rfl⟩
 refine ⟨l.reverse,n,#[],rfl,fun _=>List.length_reverse,List.length_reverse,fun x hx=>.inl (List.mem_reverse.1 hx),(List.take_length ..).symm,Nat.le_refl _,?_⟩
 unfold sortWorldK
 rw [grow_empty,List.reverse_toArray]
end Go.Proofs.YtbopoblkoainjaaGreat.DW

namespace Go.Proofs.YtbopoblkoainjaaGreat.DW
open Go.RowKit Go.Sort Go.Lib
theorem cmpD_snoc (y x:DV):∀ l:List DV,cmpD (l++[y,x])=cmpD (l++[y])++(if y=x then [] else [x])
 | []=>by
  show (if y=x then cmpD [x] else y :: cmpD [x])=[y]++_
  by_cases h:y=x
  ·rw [if_pos h,if_pos h,h]; rfl
  ·rw [if_neg h,if_neg h]; rfl
 | [a]=>by
  show (if a=y then cmpD [y,x] else a :: cmpD [y,x])=(if a=y then cmpD [y] else a :: cmpD [y])++_
  have ih:=cmpD_snoc y x []
  simp only [List.nil_append] at ih
  by_cases h:a=y
  ·rw [if_pos h,if_pos h,ih]
  ·rw [if_neg h,if_neg h,ih]; rfl
 | a :: b :: l=>by
  show (if a=b then cmpD (b :: (l++[y,x])) else a :: cmpD (b :: (l++[y,x])))=(if a=b then cmpD (b :: (l++[y])) else a :: cmpD (b :: (l++[y])))++_
  have ih:=cmpD_snoc y x (b :: l)
  simp only [List.cons_append] at ih
  by_cases h:a=b
  ·rw [if_pos h,if_pos h,ih]
  ·rw [if_neg h,if_neg h,ih]; rfl
theorem cpt_take (l:List DV):∀ m,m<=l.length->compactUpTo l.toArray m=cmpD (l.take m)
 | 0,_=>rfl
 | 1,h=>by
  rw [compactUpTo_succ,keeps_lt_one _ 0 (by decide),if_pos rfl]
  have e:l.take 1=[l[0]'(by omega)]:=by rw [List.take_add_one,List.getElem?_eq_getElem (by omega)]; rfl
  rw [e,getElem!_pos l.toArray 0 (by simp; omega)]
  rfl
 | m+2,h=>by
  have ih:=cpt_take l (m+1) (by omega)
  have e1:l.take (m+1)=l.take m++[l[m]'(by omega)]:=by rw [List.take_add_one,List.getElem?_eq_getElem (by omega)]; rfl
  have e2:l.take (m+2)=l.take m++[l[m]'(by omega),l[m+1]'(by omega)]:=by
   rw [List.take_add_one,List.getElem?_eq_getElem (by omega),e1,List.append_assoc]; rfl
  rw [compactUpTo_succ,ih,e2,cmpD_snoc,e1]
  have g1:l.toArray[m+1]! = l[m+1]'(by omega):=by rw [getElem!_pos l.toArray (m+1) (by simp; omega)]; rfl
  have g0:l.toArray[m+1 - 1]! = l[m]'(by omega):=by rw [Nat.add_sub_cancel,getElem!_pos l.toArray m (by simp; omega)]; rfl
  by_cases h2:l[m]'(by omega)=l[m+1]'(by omega)
  ·rw [keeps_neg (by omega) (by rw [g1,g0,h2]),if_pos h2]; rfl
  ·rw [keeps_pos (by rw [g1,g0]; exact fun h=>h2 h.symm),if_neg h2,if_pos rfl,g1]
theorem cpt_all (l:List DV):compactUpTo l.toArray l.length=cmpD l:=by
 rw [cpt_take l _ (Nat.le_refl _),List.take_length]
theorem setMany_one (d:Array DV) {i:Nat} (hi:i < d.size) (x:DV):setMany (flatK encV 2 d) (i * 2) (encV x)=flatK encV 2 (d.setIfInBounds i x):=by
 refine ext_get! (by simp) fun t ht=>?_
 have ht':t < d.size * 2:=by simpa using ht
 rw [get_setMany _ _ _ t (by simpa using ht'),get_flatK _ _ _ t ht',get_flatK _ _ _ t (by simpa using ht')]
 show (if i * 2<=t/\t < i * 2+2 then _ else _)=_
 by_cases h:t / 2=i
 ·rw [if_pos ⟨by omega,by omega⟩]
  subst h
  rw [getElem!_set_same d _ x hi,show t - t / 2 * 2=t % 2 by omega]
 ·rw [if_neg (by omega),getElem!_set_other d i _ x h]
theorem setMany_zero (d:Array DV) {k:Nat} (hk:k<=d.size) (r:List DV) (hr:r.length=k) (hlow:∀ j,j < k->r[j]? = some d[j]!) :
  setMany (flatK encV 2 d) (k * 2) (List.replicate ((d.size - k) * 2) (.int .i64 0))=flatK encV 2 (r++List.replicate (d.size - k) (0,0)).toArray:=by
 have hsz:(r++List.replicate (d.size - k) ((0:Int),(0:Int))).toArray.size=d.size:=by simp [hr]; omega
 refine ext_get! (by rw [size_setMany,size_flatK,size_flatK,hsz]) fun t ht=>?_
 have ht':t < d.size * 2:=by simpa using ht
 rw [get_setMany _ _ _ t (by simpa using ht'),get_flatK _ _ _ t ht',get_flatK _ _ _ t (by rw [hsz]; exact ht'),List.length_replicate]
 by_cases h:t / 2 < k
 ·rw [if_neg (by omega)]
  have h1:=hlow _ h
  have h2:(r++List.replicate (d.size - k) ((0:Int),(0:Int))).toArray[t / 2]! = d[t / 2]!:=by
   rw [getElem!_pos _ _ (by rw [hsz]; omega)]
   rw [List.getElem_toArray,List.getElem_append_left (by omega)]
   rw [List.getElem?_eq_getElem (by omega)] at h1
   injection h1
  rw [h2]
 ·rw [if_pos ⟨by omega,by omega⟩]
  have h2:(r++List.replicate (d.size - k) ((0:Int),(0:Int))).toArray[t / 2]! = (0,0):=by
   rw [getElem!_pos _ _ (by rw [hsz]; omega)]
   rw [List.getElem_toArray,List.getElem_append_right (by omega),List.getElem_replicate]
  rw [h2,getElem!_pos _ _ (by simp; omega),List.getElem_replicate]
  have h3:t % 2=0\/t % 2=1:=by omega
  rcases h3 with h3|h3<;>rw [h3]<;>rfl
end Go.Proofs.YtbopoblkoainjaaGreat.DW

namespace Go.Proofs.YtbopoblkoainjaaGreat.DW
open Go.RowKit Go.Sort Go.Lib
theorem vecT:vecTy Tryz.prog 24=true:=by kernel_rfl
theorem run_clear_vec (w:World) (ty:TypeId) (b o n c:Nat) (hn:0 < n)
  (hc:∀ j,j < n * 2->(w.cell? ⟨b,o+j,none⟩).isSome=true) (hf:∀ j,j < n * 2->w.frozen? ⟨b,o+j,none⟩=false) :
  (Builtin.clear_ #[25] ty #[.slice (some ⟨b,o,none⟩) n c]).run Tryz.prog w=.ok (.tuple #[]) (w.setCells b o (List.replicate (n * 2) (.int .i64 0))):=by
 have hzc:(Builtin.zeroCells (Value.agg #[.int .i64 0,.int .i64 0]).cells n).toList=List.replicate (n * 2) (.int .i64 0):=by
  apply List.ext_getElem
  ·simp [Builtin.zeroCells,Value.cells]
  ·intro i h1 h2
   simp only [Builtin.zeroCells,Value.cells,Array.toList_map,Array.toList_range,List.getElem_map,List.getElem_range,List.getElem_replicate]
   have:i % 2=0\/i % 2=1:=by omega
   show (#[Value.int .i64 0,Value.int .i64 0])[i % 2]! = _
   rcases this with h|h<;>rw [h]<;>rfl
 have hst:=run_storeCells_cells (P:=Tryz.prog) b o (List.replicate (n * 2) (.int .i64 0)) 0 w (by simpa using hc) (by simpa using hf) (by intro v hv'; rw [List.eq_of_mem_replicate hv']; rfl)
 simp only [Nat.add_zero] at hst
 obtain ⟨m,rfl⟩:∃ m,n=m+1:=⟨n - 1,by omega⟩
 have hz:=Tryz.zeroValue24
 have hu:=Tryz.underlying25
 simp [Builtin.clear_,run_underlying hu,hz,hzc,hst]
theorem store_world_v {w wr:World} {n blk off:Nat} {dk:Array DV} {i:Nat} (hi:i < dk.size) (hwr:wr=putRowK encV 2 (Sort.ahead w n) blk off dk) (a b:Int) :
  ((wr.setCell ⟨blk,off+i * 2,none⟩ (.int .i64 a)).setCell ⟨blk,off+i * 2+1,none⟩ (.int .i64 b)).drew=putRowK encV 2 (Sort.ahead w (n+1)) blk off (dk.setIfInBounds i (a,b)):=by
 subst hwr
 have h:=setCells_putRow (Sort.ahead w n) blk off (encV (a,b)) (i * 2) (flatK encV 2 dk) (by rw [size_flatK]; show i * 2+2<=_; omega)
 rw [setMany_one dk hi (a,b)] at h
 have h2:((putRowK encV 2 (Sort.ahead w n) blk off dk).setCell ⟨blk,off+i * 2,none⟩ (.int .i64 a)).setCell ⟨blk,off+i * 2+1,none⟩ (.int .i64 b)=putRow id (Sort.ahead w n) blk off (flatK encV 2 (dk.setIfInBounds i (a,b))):=h
 rw [h2,putRow_drew,ahead_drew]
 rfl
set_option maxHeartbeats 4000000 in
theorem compact_any (blk off cap:Nat) (d:Array DV) (w:World) (hH:HoldsK encV 2 w blk off d) (hsz:d.size<=9223372036854775807) (hcap:d.size<=cap) :
  Calls Tryz.prog 176 #[.slice (some ⟨blk,off,none⟩) d.size cap] w fun e w'=>e=.returned (.slice (some ⟨blk,off,none⟩) (compactUpTo d d.size).length cap)/\∃ q,w'=putRowK encV 2 (Sort.ahead w q) blk off (compactUpTo d d.size++List.replicate (d.size - (compactUpTo d d.size).length) (0,0)).toArray:=by
 have heq':∀ (a b c d:Int) (w:World),Sem.run Tryz.prog (binOp .eql 24 (.agg #[.int .i64 a,.int .i64 b]) (.agg #[.int .i64 c,.int .i64 d])) w=.ok (.bool (decide (a=c) && decide (b=d))) w:=fun a b c d w=>by rw [run_eql_struct,vec_eq vecT]; rfl
 have hne':∀ (a b c d:Int) (w:World),Sem.run Tryz.prog (binOp .neq 24 (.agg #[.int .i64 a,.int .i64 b]) (.agg #[.int .i64 c,.int .i64 d])) w=.ok (.bool (!(decide (a=c) && decide (b=d)))) w:=fun a b c d w=>by rw [run_neq_struct,vec_eq vecT]; rfl
 have hgd':∀ (op:BinOp) (x y:Operand) (a b c d:Int) (w:World),Sem.run Tryz.prog (eqGuard op 24 x y (.agg #[.int .i64 a,.int .i64 b]) (.agg #[.int .i64 c,.int .i64 d])) w=.ok () w:=fun op x y a b c d w=>run_eqGuard_agg w op _ x y _ _ (vecTy_g vecT)
 have same:∀ q,(∀ j,j < d.size->keeps d j=true)->(compactUpTo d d.size).length=d.size/\w.drewN q=putRowK encV 2 (Sort.ahead w q) blk off (compactUpTo d d.size++List.replicate (d.size - (compactUpTo d d.size).length) (0,0)).toArray:=by
  intro q hall
  have e:compactUpTo d d.size=d.toList:=by rw [compactUpTo_all d _ hall,range_map_get]
  rw [e]
  refine ⟨by simp,?_⟩
  simp only [Array.length_toList,Nat.sub_self,List.replicate_zero,List.append_nil,Array.toArray_toList]
  exact (putRowK_self encV 2 (Sort.ahead w q) blk off d (holdsK_ahead encV 2 w q blk off d hH)).symm
 have HS:Aside (∀ q,(∀ j,j < d.size->keeps d j=true)->(compactUpTo d d.size).length=d.size/\w.drewN q=putRowK encV 2 (Sort.ahead w q) blk off (compactUpTo d d.size++List.replicate (d.size - (compactUpTo d d.size).length) (0,0)).toArray):=same
 clear same
 have mixed:Tryz.prog.follows .mixedOrders=true:=mixes
 have encat:∀ x:DV,(encV x)[0]! = .int .i64 x.1/\(encV x)[1]! = .int .i64 x.2:=fun x=>⟨rfl,rfl⟩
 by_cases h2:d.size < 2
 ·have HH:Aside (HoldsK encV 2 w blk off d):=hH
  clear hH
  go_enter Tryz.func176,Tryz.ntmps176
  go_wp2
  go_ret
  obtain ⟨e1,e2⟩:=HS.out 0 (fun j hj=>keeps_lt_one d j (by omega))
  exact ⟨by rw [e1]; rfl,0,e2⟩
 ·go_enter Tryz.func176,Tryz.ntmps176
  go_wp2
  go_loopg [3] d.size (fun g s3 wr=>∃ k q:Nat,1<=k/\k<=d.size/\d.size - k<=g/\s3=.int .i64 k/\wr=w.drewN q/\∀ j,j < k->keeps d j=true)
  case atStart=>exact ⟨1,0,Nat.le_refl _,by omega,by omega,rfl,rfl,keeps_lt_one d⟩
  case round =>
   obtain ⟨k,q,hk1,hk,hg,rfl,rfl,hall⟩:=hrel
   by_cases hlt:k < d.size
   ·obtain ⟨c1,f1⟩:=hH.cell hlt (c:=0) (by decide)
    obtain ⟨c1',f1'⟩:=hH.cell hlt (c:=1) (by decide)
    obtain ⟨c0,f0⟩:=hH.cell (i:=k - 1) (by omega) (c:=0) (by decide)
    obtain ⟨c0',f0'⟩:=hH.cell (i:=k - 1) (by omega) (c:=1) (by decide)
    rw [(encat _).1] at c1 c0
    rw [(encat _).2] at c1' c0'
    rw [Nat.add_zero] at c1 c0 f1 f0
    have A:Aside (∀ j,j < k->keeps d j=true):=hall
    have HH:Aside (HoldsK encV 2 w blk off d):=hH
    clear hall hH
    generalize hx:d[k]! = x at c1 c1'
    generalize hy:d[k - 1]! = y at c0 c0'
    have B:Aside (d[k]! = x/\d[k - 1]! = y):=⟨hx,hy⟩
    clear hx hy
    obtain ⟨x1,x2⟩:=x
    obtain ⟨y1,y2⟩:=y
    simp only at c1 c1' c0 c0'
    have hbe:(decide (x1=y1) && decide (x2=y2))=decide ((x1,x2)=(y1,y2)):=by
     by_cases e1:x1=y1<;>by_cases e2:x2=y2<;>simp [e1,e2]
    by_cases hdup:((x1,x2):DV)=(y1,y2)
    ·injection hdup with h1 h2'
     subst h1 h2'
     go_wp2_with fail
     go_region_o
     go_wp2
     clear c0 c1 c0' c1' f0 f1 f0' f1'
     go_loopg [3,5] d.size (fun g s3 s5 wr=>∃ (kk k2 q2:Nat) (dk:Array DV),s3=.int .i64 kk/\s5=.int .i64 k2/\1<=k2/\k+k2<=d.size/\d.size - (k+k2)<=g/\wr=putRowK encV 2 (Sort.ahead w q2) blk off dk/\CompInv d (k+k2) kk dk)
     case atStart=>exact ⟨k,1,q+1,d,rfl,rfl,Nat.le_refl _,by omega,by omega,(putRowK_self encV 2 (Sort.ahead w (q+1)) blk off d (holdsK_ahead encV 2 w (q+1) blk off d HH.out)).symm,CompInv.start A.out (keeps_neg (by omega) (by rw [B.out.1,B.out.2]))⟩
     case round =>
      obtain ⟨kk,k2,q2,dk,rfl,rfl,h1,hle,hg2,hwr,hI⟩:=hrel
      have hkk:=hI.lt
      have hds:=hI.size
      have hHk:HoldsK encV 2 wr blk off dk:=by rw [hwr]; exact holdsK_putRowK encV 2 _ blk off d dk (holdsK_ahead encV 2 w q2 blk off d HH.out) hds
      have W2:Aside (wr=putRowK encV 2 (Sort.ahead w q2) blk off dk):=hwr
      have I2:Aside (CompInv d (k+k2) kk dk):=hI
      clear hwr
      by_cases hlt2:k+k2 < d.size
      ·obtain ⟨cm,_⟩:=hHk.cell (i:=k+k2) (by omega) (c:=0) (by decide)
       obtain ⟨cm',_⟩:=hHk.cell (i:=k+k2) (by omega) (c:=1) (by decide)
       obtain ⟨cp,_⟩:=hHk.cell (i:=k+k2 - 1) (by omega) (c:=0) (by decide)
       obtain ⟨cp',_⟩:=hHk.cell (i:=k+k2 - 1) (by omega) (c:=1) (by decide)
       obtain ⟨ck,fk⟩:=hHk.cell (i:=kk) (by omega) (c:=0) (by decide)
       obtain ⟨ck',fk'⟩:=hHk.cell (i:=kk) (by omega) (c:=1) (by decide)
       rw [hI.high (k+k2) (by omega),(encat _).1,show off+(k+k2) * 2+0=off+k * 2+k2 * 2 by omega] at cm
       rw [hI.high (k+k2) (by omega),(encat _).2,show off+(k+k2) * 2+1=off+k * 2+k2 * 2+1 by omega] at cm'
       rw [hI.high (k+k2 - 1) (by omega),(encat _).1,show off+(k+k2 - 1) * 2+0=off+k * 2+(k2 - 1) * 2 by omega] at cp
       rw [hI.high (k+k2 - 1) (by omega),(encat _).2,show off+(k+k2 - 1) * 2+1=off+k * 2+(k2 - 1) * 2+1 by omega] at cp'
       rw [(encat _).1,Nat.add_zero] at ck
       rw [(encat _).2] at ck'
       rw [Nat.add_zero] at fk
       clear hHk hI
       generalize hu:d[k+k2]! = u at cm cm'
       generalize hv:d[k+k2 - 1]! = v at cp cp'
       generalize dk[kk]! = old at ck ck'
       have C:Aside (d[k+k2]! = u/\d[k+k2 - 1]! = v):=⟨hu,hv⟩
       clear hu hv
       obtain ⟨u1,u2⟩:=u
       obtain ⟨v1,v2⟩:=v
       obtain ⟨o1,o2⟩:=old
       simp only at cm cm' cp cp' ck ck'
       by_cases huv:((u1,u2):DV)=(v1,v2)
       ·injection huv with e1 e2
        subst e1 e2
        go_wp2_with fail
        go_region_o
        go_wp2
        go_roundg (d.size - (k+(k2+1)))
        case measure=>omega
        case rel=>exact ⟨kk,k2+1,q2+1,dk,rfl,by go_num,by omega,by omega,Nat.le_refl _,by rw [W2.out]; rfl,I2.out.skip (keeps_neg (by omega) (by rw [C.out.1,C.out.2]))⟩
       ·have huv2:¬ (u1=v1/\u2=v2):=fun h=>huv (by rw [h.1,h.2])
        have hbe2:(decide (u1=v1) && decide (u2=v2))=false:=by
         by_cases e1:u1=v1<;>by_cases e2:u2=v2<;>simp [e1,e2]<;>exact huv2 ⟨e1,e2⟩
        have HU:Aside (¬ ((u1,u2):DV)=(v1,v2)):=huv
        clear huv huv2
        go_wp2_with fail
        go_region_o
        go_wp2
        go_roundg (d.size - (k+(k2+1)))
        case measure=>omega
        case rel=>exact ⟨kk+1,k2+1,q2+1,dk.setIfInBounds kk (u1,u2),by go_num,by go_num,by omega,by omega,Nat.le_refl _,store_world_v (by omega) W2.out u1 u2,by have:=I2.out.keep hlt2 (keeps_pos (by rw [C.out.1,C.out.2]; exact HU.out)); rwa [C.out.1] at this⟩
      ·have hend:k+k2=d.size:=by omega
       have hcl:∀ ty,(Builtin.clear_ #[25] ty #[.slice (some ⟨blk,off+kk * 2,none⟩) (d.size - kk) (cap - kk)]).run Tryz.prog wr=.ok (.tuple #[]) (wr.setCells blk (off+kk * 2) (List.replicate ((d.size - kk) * 2) (.int .i64 0))) :=
        fun ty=>run_clear_vec wr ty blk (off+kk * 2) _ _ (by omega) (fun j hj=>by
         have h:=(hHk (kk * 2+j) (by simp [hds]; omega)).1
         rw [show off+kk * 2+j=off+(kk * 2+j) by omega,h]; rfl) (fun j hj=>by
         have h:=(hHk (kk * 2+j) (by simp [hds]; omega)).2
         rw [show off+kk * 2+j=off+(kk * 2+j) by omega]; exact h)
       clear hHk hI
       go_wp2
       go_ret
       have hI:=I2.out
       rw [hend] at hI
       refine ⟨by rw [hI.len]; rfl,q2,?_⟩
       have hz:=setMany_zero dk (k:=kk) (by omega) (compactUpTo d d.size) hI.len hI.low
       rw [hI.len,W2.out]
       unfold putRowK
       rw [setCells_putRow _ _ _ _ _ _ (by rw [size_flatK,List.length_replicate]; omega),show d.size - kk=dk.size - kk by rw [hds],hz]
    ·have hbe2:(decide (x1=y1) && decide (x2=y2))=false:=by rw [hbe]; exact decide_eq_false hdup
     have HD:Aside (¬ ((x1,x2):DV)=(y1,y2)):=hdup
     clear hdup hbe
     go_wp2_with fail
     go_region_o
     go_wp2
     go_roundg (d.size - (k+1))
     case measure=>omega
     case rel =>
      refine ⟨k+1,q+1,by omega,by omega,Nat.le_refl _,by go_num,rfl,fun j hj=>?_⟩
      by_cases e:j=k
      ·subst e
       exact keeps_pos (by rw [B.out.1,B.out.2]; exact HD.out)
      ·exact A.out j (by omega)
   ·have:k=d.size:=by omega
    subst this
    have HH:Aside (HoldsK encV 2 w blk off d):=hH
    clear hH
    go_wp2
    go_ret
    obtain ⟨e1,e2⟩:=HS.out q hall
    exact ⟨by rw [e1]; rfl,q,e2⟩
theorem compact_fn (l:List DV) (h0:0 < l.length) (hn:l.length<=1048576):FnR Tryz.prog 176 [] 24 tVec l (cmpD l) true:=by
 refine FnR.of (enters_of Tryz.func176 (by kernel_rfl) rfl) h0 true fun hI w g cap hg hc hcm hH=>?_
 have hcon:=compact_any g 0 cap l.toArray w hH (by simp; omega) (by simpa using hc)
 have hdl:l.toArray.size=l.length:=by simp
 rw [hdl,cpt_all] at hcon
 refine Calls.mono hcon ?_
 rintro e w' ⟨rfl,n,rfl⟩
 have hcl:=cmpD_len (l:=l)
 refine ⟨cmpD l++List.replicate (l.length - (cmpD l).length) (0,0),n,#[],rfl,(fun h=>by cases h),?_,fun x hx=>?_,?_,?_,?_⟩
 ·rw [List.length_append,List.length_replicate]; omega
 ·rcases List.mem_append.1 hx with h|h
  ·exact .inl (cmpD_mem.1 h)
  ·exact .inr (List.eq_of_mem_replicate h)
 ·rw [List.take_left']; rfl
 ·rw [List.length_append]; omega
 ·unfold sortWorldK
  rw [grow_empty]
theorem cloneV_fn (l:List DV) (h0:0 < l.length) (hn:l.length<=1048576):FnG Tryz.prog 173 [⟨.slice tVec,l⟩] 24 tVec l:=by
 refine fnG_enter tabOK mixes Tryz.func173 rfl rfl _ Tryz.ntmps173 _ Tryz.results173 (by simp) fun hwf=>?_
 try simp (maxSteps:=9^9) only[go_sem]
 refine NilW.non (by intro e; rw [e] at h0; simp at h0) ?_
 try simp (maxSteps:=9^9) only[go_sem]
 repeat refine AI ?_
 exact ⟨0,1,rfl,rfl⟩
theorem HullOf_fn (l:List DV) (hl:∀ v ∈ l,okV v=true) (h0:0 < l.length) (hn:l.length<=64):Fn Tryz.prog 155 [⟨.slice tVec,l⟩] true [⟨.slice tVec,hullD l⟩]:=by
 have c1:=areVecs_fn l
 rw [any_okV_f hl] at c1
 have d0:=decide_eq_false (p:=(l.length:Int) > 64) (by omega)
 have c2:=cloneV_fn l h0 (by omega)
 have c3:=sort_fn l hl h0 (by omega)
 have hml:(l.mergeSort leB).length=l.length:=List.length_mergeSort _
 have c4:=compact_fn (l.mergeSort leB) (by omega) (by omega)
 have hsl:=srtD_len l
 have hsm:∀ v ∈ srtD l,okV v=true:=fun v hv=>hl v (srtD_mem.1 hv)
 have hcs:cmpD (l.mergeSort leB)=srtD l:=rfl
 rw [hcs] at c4
 refine fe Tryz.func155 Tryz.ntmps155 Tryz.results155 fun hwf=>?_
 try simp (maxSteps:=9^9) only[go_sem,d0]
 repeat refine AI ?_
 refine cw c1 ?_
 try simp (maxSteps:=9^9) only[go_sem]
 repeat refine AI ?_
 refine CallW.g (c2) ?_
 try simp (maxSteps:=9^9) only[go_sem]
 repeat refine AI ?_
 refine CallW.r (k:=0) (ver:=0) (o:=true) (c3) ?_
 try simp (maxSteps:=9^9) only[go_sem]
 repeat refine AI ?_
 refine CallW.r (k:=0) (ver:=0) (o:=true) (c4) ?_
 try simp (maxSteps:=9^9) only[go_sem]
 refine CondW_dec (fun hA=>?_) (fun hA=>?_)
 ·have hh:hullD l=srtD l:=by unfold hullD; rw [if_pos (by omega)]
  rw [hh]
  try simp (maxSteps:=9^9) only[go_sem]
 ·have hh:hullD l=chD (srtD l)++chD (srtD l).reverse:=by unfold hullD; rw [if_neg (by omega)]
  rw [hh]
  generalize srtD l=s at hsl hsm hA ⊢
  have c5:=chain_fn s hsm (by omega) (by omega)
  have c6:=reverse_fn s (by omega) (by omega)
  have hrl:s.reverse.length=s.length:=List.length_reverse
  have c7:=chain_fn s.reverse (fun v hv=>hsm v (List.mem_reverse.1 hv)) (by omega) (by omega)
  have q1:=chR_len s
  have q2:=chR_len s.reverse
  have q3:(chD s).length<=s.length:=by unfold chD; rw [List.length_dropLast,List.length_reverse]; omega
  have q4:(chD s.reverse).length<=s.length:=by unfold chD; rw [List.length_dropLast,List.length_reverse]; omega
  try simp (maxSteps:=9^9) only[go_sem]
  repeat refine AI ?_
  refine CallW.g (c5) ?_
  try simp (maxSteps:=9^9) only[go_sem]
  repeat refine AI ?_
  refine CallW.r (k:=0) (ver:=1) (o:=true) (c6) ?_
  try simp (maxSteps:=9^9) only[go_sem]
  repeat refine AI ?_
  refine CallW.g (c7) ?_
  try simp (maxSteps:=9^9) only[go_sem]
  repeat refine AI ?_
  omega
theorem natL_minInt:natL 9223372036854775808=[854775808,223372036,9]:=by
 rw [natL_pos (by decide),natL_pos (by decide),natL_pos (by decide),natL_zero]; rfl
theorem bigOf_fn (n:Int):Fn Tryz.prog 50 [⟨.int,n⟩] true [⟨tBig,bigD n⟩]:=by
 by_cases h0:0<=n
 ·have hn:¬ n < 0:=by omega
  have e:n.natAbs=n.toNat:=by omega
  refine fe Tryz.func50 Tryz.ntmps50 Tryz.results50 fun hwf=>?_
  try simp (maxSteps:=9^9) only[go_sem,h0,hn]
  repeat refine AI ?_
  refine cw (implNatOf_fn n) ?_
  try simp (maxSteps:=9^9) only[go_sem]
  rw [e]
  all_goals repeat refine AI ?_
  all_goals first|kernel_rfl|omega|rfl
 ·by_cases h1:n=-9223372036854775808
  ·subst h1
   have e:natL 9223372036854775807=natL (9223372036854775807:Int).toNat:=rfl
   have ha:=natAdd_fn (9223372036854775807:Int).toNat (1:Int).toNat (Nat.le_trans (natL_len3 (n:=9223372036854775807) (by decide)) (by decide)) (Nat.le_trans (nl_small (by decide)) (by decide))
   refine fe Tryz.func50 Tryz.ntmps50 Tryz.results50 fun hwf=>?_
   try simp (maxSteps:=9^9) only[go_sem]
   repeat refine AI ?_
   refine cw (implNatOf_fn 9223372036854775807) ?_
   try simp (maxSteps:=9^9) only[go_sem]
   repeat refine AI ?_
   refine cw (implNatOf_fn 1) ?_
   try simp (maxSteps:=9^9) only[go_sem]
   repeat refine AI ?_
   refine cw ha ?_
   try simp (maxSteps:=9^9) only[go_sem]
   all_goals repeat refine AI ?_
   all_goals first|kernel_rfl|omega|rfl
  ·have hn:n < 0:=by omega
   have e:n.natAbs=(-n).toNat:=by omega
   refine fe Tryz.func50 Tryz.ntmps50 Tryz.results50 fun hwf=>?_
   have hI:I64 n:=hwf ⟨.int,n⟩ (by simp)
   have hI1:=hI.1
   have hI2:=hI.2
   try simp (maxSteps:=9^9) only[go_sem,h0,h1]
   repeat refine AI ?_
   repeat refine AI ?_
   refine cw (implNatOf_fn (-n)) ?_
   try simp (maxSteps:=9^9) only[go_sem]
   rw [e]
   simp [hn]
theorem BigIntOf_fn (n:Int):Fn Tryz.prog 89 [⟨.int,n⟩] true [⟨tBig,bigD n⟩]:=by
 by_cases h1:n=-9223372036854775808
 ·subst h1
  have hm:=l03Make_to (s:=true) (n:=9223372036854775808) (z:=-9223372036854775808) rfl (Nat.le_trans (natL_len3 (n:=9223372036854775808) (by decide)) (by decide))
  rw [natL_minInt] at hm
  refine fe Tryz.func89 Tryz.ntmps89 Tryz.results89 fun hwf=>?_
  try simp (maxSteps:=9^9) only[go_sem]
  repeat refine AI ?_
  refine cw hm ?_
  try simp (maxSteps:=9^9) only[go_sem]
  all_goals repeat refine AI ?_
  all_goals first|kernel_rfl|omega|rfl
 ·refine fe Tryz.func89 Tryz.ntmps89 Tryz.results89 fun hwf=>?_
  have hI:I64 n:=hwf ⟨.int,n⟩ (by simp)
  have hI1:=hI.1
  have hI2:=hI.2
  try simp (maxSteps:=9^9) only[go_sem]
  refine CondW_dec (fun h=>absurd h h1) (fun _=>?_)
  try simp (maxSteps:=9^9) only[go_sem]
  refine CondW_dec (fun hn=>?_) (fun hn=>?_)
  ·have hm:=l03Make_to (s:=true) (n:=(-n).toNat) (z:=n) (by unfold sgn; simp; omega) (Nat.le_trans (natL_len3 (n:=-n) (by omega)) (by decide))
   try simp (maxSteps:=9^9) only[go_sem]
   repeat refine AI ?_
   repeat refine AI ?_
   refine cw (specNatOf_fn (-n)) ?_
   try simp (maxSteps:=9^9) only[go_sem]
   repeat refine AI ?_
   refine cw hm ?_
   try simp (maxSteps:=9^9) only[go_sem]
   all_goals repeat refine AI ?_
   all_goals first|kernel_rfl|omega|rfl
  ·have hm:=l03Make_to (s:=false) (n:=n.toNat) (z:=n) (by unfold sgn; simp; omega) (Nat.le_trans (natL_len3 (n:=n) (by omega)) (by decide))
   try simp (maxSteps:=9^9) only[go_sem]
   repeat refine AI ?_
   refine cw (specNatOf_fn n) ?_
   try simp (maxSteps:=9^9) only[go_sem]
   repeat refine AI ?_
   refine cw hm ?_
   try simp (maxSteps:=9^9) only[go_sem]
   all_goals repeat refine AI ?_
   all_goals first|kernel_rfl|omega|rfl
def ratI (n:Int):DR:=(bigD n,[1])
theorem ratI_eq (n:Int):ratI n=ratD (n:Rat):=by
 rw [ratI,ratD,Rat.num_intCast,Rat.den_intCast,natL_1]
attribute [go_sem] ratI
theorem ratInt_fn (n:Int):Fn Tryz.prog 22 [⟨.int,n⟩] true [⟨tRat,ratI n⟩]:=by
 refine fe Tryz.func22 Tryz.ntmps22 Tryz.results22 fun hwf=>?_
 try simp (maxSteps:=9^9) only[go_sem]
 repeat refine AI ?_
 refine cw (bigOf_fn n) ?_
 try simp (maxSteps:=9^9) only[go_sem]
 all_goals repeat refine AI ?_
 all_goals first|kernel_rfl|omega|rfl
theorem RatFromInt_fn (n:Int):Fn Tryz.prog 85 [⟨.int,n⟩] true [⟨tRat,ratI n⟩]:=by
 refine fe Tryz.func85 Tryz.ntmps85 Tryz.results85 fun hwf=>?_
 try simp (maxSteps:=9^9) only[go_sem]
 repeat refine AI ?_
 refine cw (BigIntOf_fn n) ?_
 try simp (maxSteps:=9^9) only[go_sem]
 all_goals repeat refine AI ?_
 all_goals first|kernel_rfl|omega|rfl
end Go.Proofs.YtbopoblkoainjaaGreat.DW

namespace Go.Proofs.YtbopoblkoainjaaGreat
open Go.RowKit
theorem Has.of {α:Type} {A:Rp α} {w:World} {cs:List Value} {a:α} {fp:List Nat} (h:A.rep w cs a fp):Has A w cs a:=⟨fp,h⟩
end Go.Proofs.YtbopoblkoainjaaGreat

namespace Go.Proofs.YtbopoblkoainjaaGreat.DW
open Go.RowKit
theorem addO_none_l (y:Option Rat):addO none y=none:=rfl
theorem addO_none_r (x:Option Rat):addO x none=none:=by cases x<;>rfl
theorem specRatAdd_fn (r s:DR):Fn Tryz.prog 45 [⟨tRat,r⟩,⟨tRat,s⟩] true [⟨tRat,oD (addO (rdO r) (rdO s))⟩]:=by
 cases hr:okR r
 ·rw [okR_f hr,addO_none_l]
  refine fe Tryz.func45 Tryz.ntmps45 Tryz.results45 fun hwf=>?_
  try simp (maxSteps:=9^9) only[go_sem]
  repeat refine AI ?_
  refine cw (specRatOk_fn r) ?_
  try simp (maxSteps:=9^9) only[go_sem]
  try simp (maxSteps:=9^9) only[go_sem,hr]
 ·cases hs:okR s
  ·rw [okR_f hs,addO_none_r]
   refine fe Tryz.func45 Tryz.ntmps45 Tryz.results45 fun hwf=>?_
   try simp (maxSteps:=9^9) only[go_sem]
   repeat refine AI ?_
   refine cw (specRatOk_fn r) ?_
   try simp (maxSteps:=9^9) only[go_sem]
   try simp (maxSteps:=9^9) only[go_sem,hr]
   repeat refine AI ?_
   refine cw (specRatOk_fn s) ?_
   try simp (maxSteps:=9^9) only[go_sem]
   try simp (maxSteps:=9^9) only[go_sem,hs]
  ·obtain ⟨p,hp,rfl,e1⟩:=okR_t hr
   obtain ⟨q,hq,rfl,e2⟩:=okR_t hs
   rw [e1,e2]
   have hr':okR ((decide (p.num < 0),natL p.num.natAbs),natL p.den)=true:=hr
   have hs':okR ((decide (q.num < 0),natL q.num.natAbs),natL q.den)=true:=hs
   have e:addO (some p) (some q)=capR (p+q):=rfl
   rw [e]
   refine fe Tryz.func45 Tryz.ntmps45 Tryz.results45 fun hwf=>?_
   try simp (maxSteps:=9^9) only[go_sem]
   repeat refine AI ?_
   refine cw (specRatOk_fn (ratD p)) ?_
   try simp (maxSteps:=9^9) only[go_sem]
   try simp (maxSteps:=9^9) only[go_sem,hr']
   repeat refine AI ?_
   refine cw (specRatOk_fn (ratD q)) ?_
   try simp (maxSteps:=9^9) only[go_sem]
   try simp (maxSteps:=9^9) only[go_sem,hs']
   repeat refine AI ?_
   refine cw (l04Add_fn p q hp hq) ?_
   try simp (maxSteps:=9^9) only[go_sem]
   all_goals repeat refine AI ?_
   all_goals first|kernel_rfl|omega|rfl
end Go.Proofs.YtbopoblkoainjaaGreat.DW

namespace Go.Proofs.YtbopoblkoainjaaGreat.DW
open Go.RowKit
theorem ratMul_fn (x y:Option Rat) (hx:okO x) (hy:okO y):Fn Tryz.prog 95 [⟨tRat,oD x⟩,⟨tRat,oD y⟩] true [⟨tRat,oD (mulO x y)⟩]:=by
 cases x with
 | none =>
  refine fe Tryz.func95 Tryz.ntmps95 Tryz.results95 fun hwf=>?_
  try simp (maxSteps:=9^9) only[go_sem]
  repeat refine AI ?_
  refine cw isGood_n ?_
  try simp (maxSteps:=9^9) only[go_sem]
  try simp (maxSteps:=9^9) only[go_sem,mulO]
 | some p =>
  cases y with
  | none =>
   refine fe Tryz.func95 Tryz.ntmps95 Tryz.results95 fun hwf=>?_
   try simp (maxSteps:=9^9) only[go_sem]
   repeat refine AI ?_
   refine cw (isGood_s p) ?_
   try simp (maxSteps:=9^9) only[go_sem]
   repeat refine AI ?_
   refine cw isGood_n ?_
   try simp (maxSteps:=9^9) only[go_sem]
   try simp (maxSteps:=9^9) only[go_sem,mulO]
  | some q =>
   obtain ⟨p1,p2⟩:=hx p rfl
   obtain ⟨q1,q2⟩:=hy q rfl
   have b1:=nl_mulI p.num q.num
   have b4:=nl_mul p.den q.den
   have hm:=ratMake_end (p.num * q.num) (p.den * q.den) (den_mul_ne p q) (by omega) (by omega)
   rw [<-mul_mk] at hm
   have e:mulO (some p) (some q)=capR (p * q):=rfl
   rw [e]
   refine fe Tryz.func95 Tryz.ntmps95 Tryz.results95 fun hwf=>?_
   try simp (maxSteps:=9^9) only[go_sem]
   repeat refine AI ?_
   refine cw (isGood_s p) ?_
   try simp (maxSteps:=9^9) only[go_sem]
   repeat refine AI ?_
   refine cw (isGood_s q) ?_
   try simp (maxSteps:=9^9) only[go_sem]
   repeat refine AI ?_
   refine cw (bigMul_fn p.num q.num (by omega) (by omega)) ?_
   try simp (maxSteps:=9^9) only[go_sem]
   repeat refine AI ?_
   refine cw (natMul_fn p.den q.den (by omega) (by omega)) ?_
   try simp (maxSteps:=9^9) only[go_sem]
   repeat refine AI ?_
   refine cw hm ?_
   try simp (maxSteps:=9^9) only[go_sem]
   all_goals repeat refine AI ?_
   all_goals first|kernel_rfl|omega|rfl
theorem ratMin_fn (x y:Option Rat) (hx:okO x) (hy:okO y):Fn Tryz.prog 53 [⟨tRat,oD x⟩,⟨tRat,oD y⟩] false [⟨tRat,oD (minO x y)⟩]:=by
 cases x with
 | none =>
  refine fe Tryz.func53 Tryz.ntmps53 Tryz.results53 fun hwf=>?_
  try simp (maxSteps:=9^9) only[go_sem]
  repeat refine AI ?_
  refine cw isGood_n ?_
  try simp (maxSteps:=9^9) only[go_sem]
  try simp (maxSteps:=9^9) only[go_sem,minO]
 | some p =>
  cases y with
  | none =>
   refine fe Tryz.func53 Tryz.ntmps53 Tryz.results53 fun hwf=>?_
   try simp (maxSteps:=9^9) only[go_sem]
   repeat refine AI ?_
   refine cw (isGood_s p) ?_
   try simp (maxSteps:=9^9) only[go_sem]
   repeat refine AI ?_
   refine cw isGood_n ?_
   try simp (maxSteps:=9^9) only[go_sem]
   try simp (maxSteps:=9^9) only[go_sem,minO]
  | some q =>
   have hc:=ratCmp_fn (some p) (some q) hx hy
   have e:cmpO (some p) (some q)=cmpQ p q:=rfl
   rw [e] at hc
   by_cases h:cmpQ p q<=0
   ·have e2:minO (some p) (some q)=some p:=if_pos h
    rw [e2]
    refine fe Tryz.func53 Tryz.ntmps53 Tryz.results53 fun hwf=>?_
    try simp (maxSteps:=9^9) only[go_sem]
    repeat refine AI ?_
    refine cw (isGood_s p) ?_
    try simp (maxSteps:=9^9) only[go_sem]
    repeat refine AI ?_
    refine cw (isGood_s q) ?_
    try simp (maxSteps:=9^9) only[go_sem]
    repeat refine AI ?_
    refine cw hc ?_
    try simp (maxSteps:=9^9) only[go_sem]
    try simp (maxSteps:=9^9) only[go_sem,h]
   ·have e2:minO (some p) (some q)=some q:=if_neg h
    rw [e2]
    refine fe Tryz.func53 Tryz.ntmps53 Tryz.results53 fun hwf=>?_
    try simp (maxSteps:=9^9) only[go_sem]
    repeat refine AI ?_
    refine cw (isGood_s p) ?_
    try simp (maxSteps:=9^9) only[go_sem]
    repeat refine AI ?_
    refine cw (isGood_s q) ?_
    try simp (maxSteps:=9^9) only[go_sem]
    repeat refine AI ?_
    refine cw hc ?_
    try simp (maxSteps:=9^9) only[go_sem]
    try simp (maxSteps:=9^9) only[go_sem,h]
section
variable {P:Program} {f:FuncId} {fn:Func} {code:Code}
theorem enters (hf:P.funcs[f]? = some fn) (hname:(fn.name == "runtime.NumGoroutine")=false) (hb:fn.body=some code):∀ vs w,(callFunc f vs).run P w=.ok (.enter f vs) w:=by
 intro vs w
 have h1:fn.name ≠ "runtime.NumGoroutine":=by simpa using hname
 simp [callFunc,hf,h1,hb]
theorem drep_int {w:World} {v:Value} {n:Int} {fp:List Nat} (h:DRep w v ⟨.int,n⟩ fp):v=.int .i64 n:=by
 obtain ⟨cs,hp,hr⟩:=h
 rcases hp with ⟨h,_⟩|⟨_,rfl⟩
 ·cases h
 ·exact (List.cons.inj hr.1).1
theorem dres_int {own:Bool} {base:Nat} {S:Nat->Prop} {w:World} {n:Int} (h:I64 n):DRes own base S w (.int .i64 n) ⟨.int,n⟩:=⟨[],⟨[_],.inr ⟨rfl,rfl⟩,rfl,rfl,h⟩,fun _=>ownFp_nil _ _,fun b hb=>by cases hb⟩
theorem dres_bool {own:Bool} {base:Nat} {S:Nat->Prop} {w:World} {n:Bool}:DRes own base S w (.bool n) ⟨.bool,n⟩:=⟨[],⟨[_],.inr ⟨rfl,rfl⟩,rfl,rfl⟩,fun _=>ownFp_nil _ _,fun b hb=>by cases hb⟩
variable (en:∀ vs w,(callFunc f vs).run P w=.ok (.enter f vs) w)
include en
theorem Fn.ofInt {t:Ty} {x:t.den} {n r:Int} (hI:I64 r) (h:∀ w v cs,pk t v cs->Has t.rp w cs x->Calls P f #[v,.int .i64 n] w (Post fun v w'=>v=.int .i64 r/\Below w.heap.size w w')):Fn P f [⟨t,x⟩,⟨.int,n⟩] false [⟨.int,r⟩]:=by
 refine ⟨en,fun w vs S _ ha=>?_⟩
 match vs,ha with
 | [v1,v2],⟨⟨fp1,⟨cs,hp,hr⟩,_⟩,⟨fp2,h2,_⟩,_⟩ =>
  obtain rfl:=drep_int h2
  refine (h w v1 cs hp ⟨fp1,hr⟩).mono fun e w' ⟨v,he,hv,hb⟩=>⟨hb,v,he,?_⟩
  subst hv
  exact dres_int hI
 | [],ha=>exact ha.elim
 | [_],ha=>exact ha.2.elim
 | _ :: _ :: _ :: _,ha=>exact ha.2.2.elim
theorem Fn.ofEq {t:Ty} {x y:t.den} {r:Bool} (h:∀ w v cs u ds,pk t v cs->Has t.rp w cs x->pk t u ds->Has t.rp w ds y->Calls P f #[v,u] w (Post fun v w'=>v=.bool r/\Below w.heap.size w w')):Fn P f [⟨t,x⟩,⟨t,y⟩] false [⟨.bool,r⟩]:=by
 refine ⟨en,fun w vs S _ ha=>?_⟩
 match vs,ha with
 | [v1,v2],⟨⟨fp1,⟨cs,hp,hr⟩,_⟩,⟨fp2,⟨ds,hp2,hr2⟩,_⟩,_⟩ =>
  refine (h w v1 cs v2 ds hp ⟨fp1,hr⟩ hp2 ⟨fp2,hr2⟩).mono fun e w' ⟨v,he,hv,hb⟩=>⟨hb,v,he,?_⟩
  subst hv
  exact dres_bool
 | [],ha=>exact ha.elim
 | [_],ha=>exact ha.2.elim
 | _ :: _ :: _ :: _,ha=>exact ha.2.2.elim
theorem FnS.of1 {t:Ty} {x:t.den} (ht:t.isAgg=true) (h:∀ w cs,Has t.rp w cs x->Calls P f #[.agg cs.toArray] w (Post fun v w'=>v=.agg cs.toArray/\Below w.heap.size w w')):FnS P f [⟨t,x⟩] 0:=by
 refine ⟨en,fun w vs _ ha=>?_⟩
 match vs,ha with
 | [v1],⟨⟨fp1,cs,hp,hr⟩,_⟩ =>
  rcases hp with ⟨_,rfl⟩|⟨h0,_⟩
  ·exact (h w cs ⟨fp1,hr⟩).mono fun e w' ⟨v,he,hv,hb⟩=>⟨hb,_,rfl,by rw [he,hv]⟩
  ·rw [ht] at h0; cases h0
 | [],ha=>exact ha.elim
 | _ :: _ :: _,ha=>exact ha.2.elim
theorem FnM.of {t:Ty} {x x':t.den} {k r:Int} (hI:I64 r) (h:∀ w v cs fp,pk t v cs->t.rp.rep w cs x fp->fp.Nodup->(∀ b ∈ fp,Free w b)->Calls P f #[v,.int .i64 k] w (Post (MarkPost t.rp cs x' fp r w))):FnM P f t x x' k r:=⟨en,hI,h⟩
end
theorem pk_agg {t:Ty} {v:Value} {cs:List Value} (ht:t.isAgg=true) (h:pk t v cs):v=.agg cs.toArray:=by
 rcases h with ⟨_,h⟩|⟨h,_⟩
 ·exact h
 ·rw [ht] at h; cases h
@[go_sem] theorem ex_row {i ver:Nat} {p:Nat->Prop}:(∃ k,AV.row i ver=AV.row k ver/\p k)=p i:=propext ⟨fun ⟨k,e,h⟩=>by injection e with e; exact e ▸ h,fun h=>⟨i,rfl,h⟩⟩
@[go_sem] theorem eqb_self {α:Type} (a:α):eqb a a=true:=eqb_true rfl
end Go.Proofs.YtbopoblkoainjaaGreat.DW

namespace Go.Proofs.YtbopoblkoainjaaGreat
open Go.RowKit
section
variable {o:Bool} {base:Nat} {w w':World} {e:TypeId} {v:Value} {l:List Int}
theorem GrowInt.row (h:Grow Rp.int o base w e v l):w.ownsRow base e 1 v l.length (l.map (Value.int .i64))/\∀ x ∈ l,I64 x:=by
 obtain ⟨xs,fps,ho,hl,he,_,_⟩:=h
 have hxl:xs.length=l.length:=by have:=ho.1; simpa [Rp.int] using this
 have hall:∀ (i:Nat) (x:Int),l[i]? = some x->xs[i]? = some (Value.int .i64 x)/\I64 x:=by
  intro i x hx
  obtain ⟨f,cs,_,hr,hc⟩:=he i x hx
  obtain ⟨rfl,_,hI⟩:=hr
  exact ⟨by simpa [Rp.int] using hc 0 _ rfl,hI⟩
 have hxs:xs=l.map (Value.int .i64):=by
  apply List.ext_getElem?
  intro i
  rw [List.getElem?_map]
  rcases Nat.lt_or_ge i l.length with hi|hi
  ·have:=(hall i l[i] (List.getElem?_eq_getElem hi)).1
   rw [this,List.getElem?_eq_getElem hi]; rfl
  ·rw [List.getElem?_eq_none (by omega),List.getElem?_eq_none hi]; rfl
 refine ⟨hxs ▸ ho,fun x hx=>?_⟩
 obtain ⟨i,hi,rfl⟩:=List.getElem_of_mem hx
 exact (hall i _ (List.getElem?_eq_getElem hi)).2
theorem flatten_nils (n:Nat):(List.replicate n ([]:List Nat)).flatten=[]:=by
 induction n with
 | zero=>rfl
 | succ n ih=>simp
theorem GrowInt.of (h:w.ownsRow base e 1 v l.length (l.map (Value.int .i64))) (hI:∀ x ∈ l,I64 x):Grow Rp.int o base w e v l:=by
 refine ⟨l.map (Value.int .i64),List.replicate l.length [],h,by simp,fun i x hx=>?_,fun b hb=>?_,fun _=>⟨?_,fun b hb=>?_⟩⟩
 ·have hi:=(List.getElem?_eq_some_iff.1 hx).1
  refine ⟨[],[.int .i64 x],by simp [hi],⟨rfl,rfl,hI x (List.mem_of_getElem? hx)⟩,fun j c hc=>?_⟩
  cases j with
  | zero=>simp at hc; subst hc; simp [Rp.int,hx]
  | succ j=>simp at hc
 ·rw [flatten_nils] at hb; cases hb
 ·rw [flatten_nils]; exact List.nodup_nil
 ·rw [flatten_nils] at hb; cases hb
end
section
variable {P:Program} (w:World)
end
theorem GrowInt.keep {o:Bool} {base:Nat} {w w':World} {e:TypeId} {v:Value} {l:List Int} (h:Grow Rp.int o base w e v l) {row:Option Nat} (hgr:w.grownBy w' row) (hne:∀ k,v.ownBlock=some k->some k ≠ row):Grow Rp.int o base w' e v l:=by
 obtain ⟨h1,h2⟩:=GrowInt.row h
 refine GrowInt.of (h1.kept hgr ?_) h2
 cases hv:v.ownBlock with
 | none=>exact .inl rfl
 | some k=>exact .inr (hne k hv)
end Go.Proofs.YtbopoblkoainjaaGreat

namespace Go.Proofs.YtbopoblkoainjaaGreat
open Go.RowKit
def New {α:Type} (A:Rp α) (base:Nat) (w:World) (cs:List Value) (a:α):Prop:=∃ fp,A.rep w cs a fp/\∀ b ∈ fp,base<=b
theorem Own.new {α:Type} {A:Rp α} {base:Nat} {w:World} {cs:List Value} {a:α} (h:Own A base w cs a):New A base w cs a:=let ⟨fp,hr,_,ho⟩:=h; ⟨fp,hr,fun b hb=>(ho b hb).1⟩
theorem New.has {α:Type} {A:Rp α} {base:Nat} {w:World} {cs:List Value} {a:α} (h:New A base w cs a):Has A w cs a:=let ⟨fp,hr,_⟩:=h; ⟨fp,hr⟩
theorem New.below {α:Type} {A:Rp α} {base:Nat} {w w':World} {cs:List Value} {a:α} (h:New A base w cs a) (hb:Below w.heap.size w w'):New A base w' cs a :=
 let ⟨fp,hr,ho⟩:=h; ⟨fp,A.frame hr fun b hb'=>hb.block b (A.lt hr b hb'),ho⟩
theorem New.mono {α:Type} {A:Rp α} {base base':Nat} {w:World} {cs:List Value} {a:α} (h:New A base w cs a) (hb:base'<=base):New A base' w cs a:=let ⟨fp,hr,ho⟩:=h; ⟨fp,hr,fun b hb'=>Nat.le_trans hb (ho b hb')⟩
theorem New.frame {α:Type} {A:Rp α} {base:Nat} {w w':World} {cs:List Value} {a:α} (h:New A base w cs a) (hf:∀ b,base<=b->b < w.heap.size->w'.heap[b]? = w.heap[b]?):New A base w' cs a :=
 let ⟨fp,hr,ho⟩:=h; ⟨fp,A.frame hr fun b hb'=>hf b (ho b hb') (A.lt hr b hb'),ho⟩
theorem New.setCell {α:Type} {A:Rp α} {base:Nat} {w:World} {cs:List Value} {a:α} (h:New A base w cs a) {p:Addr} (hp:p.block < base) (v:Value):New A base (w.setCell p v) cs a :=
 h.frame fun b h1 _=>Below.heap_setCell _ _ _ _ (by omega)
theorem New.bool (base:Nat) (w:World) (b:Bool):New Rp.bool base w [.bool b] b:=⟨[],⟨rfl,rfl⟩,fun _ h=>by cases h⟩
theorem New.int (base:Nat) (w:World) {n:Int} (h:I64 n):New Rp.int base w [.int .i64 n] n:=⟨[],⟨rfl,rfl,h⟩,fun _ h=>by cases h⟩
theorem Has.ofInt (w:World) {n:Int} (h:I64 n):Has Rp.int w [.int .i64 n] n:=⟨[],rfl,rfl,h⟩
end Go.Proofs.YtbopoblkoainjaaGreat

namespace Go.Proofs.YtbopoblkoainjaaGreat
open Go.RowKit DW
set_option maxHeartbeats 2000000 in
theorem pointOr_any (c0 c1 c2 c3 c4 c5:Value) (x:DPoint) (w:World) (hx:Has RPoint w [c0,c1,c2,c3,c4,c5] x) (hg:DW.Fn Tryz.prog 103 [⟨DW.tPoint,x⟩] false [⟨.bool,true⟩]) :
  Calls Tryz.prog 63 #[.agg #[c0,c1,c2,c3,c4,c5]] w (Post fun v w'=>v=.agg #[c0,c1,c2,c3,c4,c5]/\Below w.heap.size w w'):=by
 have HX:=Lib.hid hx
 have ho0:=hx.one 0 c0 rfl
 have ho1:=hx.one 1 c1 rfl
 have ho2:=hx.one 2 c2 rfl
 have ho3:=hx.one 3 c3 rfl
 have ho4:=hx.one 4 c4 rfl
 have ho5:=hx.one 5 c5 rfl
 have HG:=Lib.hid hg
 clear hx hg
 go_enter Tryz.func63,Tryz.ntmps63
 go_wp2_with fail
 have hp1:=((Below.refl w.heap.size w).alloc (Nat.le_refl _) (Obj.cells #[c0,c1,c2,c3,c4,c5] 37)).alloc (by simp<;>omega) (Obj.cells #[.bool false,.slice none 0 0,.slice none 0 0,.bool false,.slice none 0 0,.slice none 0 0] 37)
 refine (HG.out.bool (vs:=[.agg #[c0,c1,c2,c3,c4,c5]]) ⟨Arg.agg (t:=DW.tPoint) (cs:=[c0,c1,c2,c3,c4,c5]) rfl (HX.out.below hp1),trivial⟩).mono ?_
 rintro e w1 ⟨v,rfl,rfl,hc1⟩
 have hb1:=Below.up hp1 hc1 (by simp<;>omega)
 have hlt1:w.heap.size+1 < w1.heap.size:=Nat.lt_of_lt_of_le (by simp<;>omega) hc1.size
 obtain ⟨hcr1,hfr1⟩:=bcell hc1
 go_wp2
 refine bodyPost_ret (v:=.agg #[c0,c1,c2,c3,c4,c5]) (by simp [results,go_sem,hlt1,hcr1]) rfl ⟨_,rfl,rfl,?_⟩
 exact ((((((hb1).setCell (p:=⟨w.heap.size+1,0,none⟩) (by simp) c0).setCell (p:=⟨w.heap.size+1,1,none⟩) (by simp) c1).setCell (p:=⟨w.heap.size+1,2,none⟩) (by simp) c2).setCell (p:=⟨w.heap.size+1,3,none⟩) (by simp) c3).setCell (p:=⟨w.heap.size+1,4,none⟩) (by simp) c4).setCell (p:=⟨w.heap.size+1,5,none⟩) (by simp) c5
end Go.Proofs.YtbopoblkoainjaaGreat

namespace Go.Proofs.YtbopoblkoainjaaGreat.DW
open Go.RowKit
theorem isGoodPoint_fn (x y:Option Rat):Fn Tryz.prog 103 [⟨tPoint,(oD x,oD y)⟩] false [⟨.bool,x.isSome && y.isSome⟩]:=by
 cases hx:x.isSome
 ·refine fe Tryz.func103 Tryz.ntmps103 Tryz.results103 fun hwf=>?_
  try simp (maxSteps:=9^9) only[go_sem]
  repeat refine AI ?_
  refine cw (isGood_fn x) ?_
  try simp (maxSteps:=9^9) only[go_sem]
  try simp (maxSteps:=9^9) only[go_sem,hx]
  repeat refine AI ?_
 ·refine fe Tryz.func103 Tryz.ntmps103 Tryz.results103 fun hwf=>?_
  try simp (maxSteps:=9^9) only[go_sem]
  repeat refine AI ?_
  refine cw (isGood_fn x) ?_
  try simp (maxSteps:=9^9) only[go_sem]
  try simp (maxSteps:=9^9) only[go_sem,hx]
  repeat refine AI ?_
  refine cw (isGood_fn y) ?_
  try simp (maxSteps:=9^9) only[go_sem]
  repeat refine AI ?_
theorem pointOr_yes (x y:Option Rat) (h:(x.isSome && y.isSome)=true):FnS Tryz.prog 63 [⟨tPoint,(oD x,oD y)⟩] 0:=by
 have h1:=isGoodPoint_fn x y
 rw [h] at h1
 refine FnS.of1 (enters Tryz.func63 rfl rfl) rfl fun w cs hc=>?_
 obtain ⟨c0,c1,c2,c3,c4,c5,rfl⟩:=list6 hc.len
 exact pointOr_any c0 c1 c2 c3 c4 c5 _ w hc h1
noncomputable def sdP (p q r:DP):Int:=sgnO (subO (mulO (subO (rdO q.1) (rdO p.1)) (subO (rdO r.2) (rdO p.2))) (mulO (subO (rdO q.2) (rdO p.2)) (subO (rdO r.1) (rdO p.1))))
theorem side_fn (p q r:DP) (hp:okPt p=true) (hq:okPt q=true) (hr:okPt r=true):Fn Tryz.prog 120 [⟨tPoint,p⟩,⟨tPoint,q⟩,⟨tPoint,r⟩] false [⟨.int,sdP p q r⟩]:=by
 obtain ⟨p1,p2⟩:=Bool.and_eq_true_iff.1 (show (okR p.1 && okR p.2)=true from hp)
 obtain ⟨q1,q2⟩:=Bool.and_eq_true_iff.1 (show (okR q.1 && okR q.2)=true from hq)
 obtain ⟨r1,r2⟩:=Bool.and_eq_true_iff.1 (show (okR r.1 && okR r.2)=true from hr)
 have c1:=ratSub_fn (rdO q.1) (rdO p.1) (okO_rdO _) (okO_rdO _)
 have c2:=ratSub_fn (rdO r.2) (rdO p.2) (okO_rdO _) (okO_rdO _)
 have c3:=ratMul_fn _ _ (okO_sub (rdO q.1) (rdO p.1)) (okO_sub (rdO r.2) (rdO p.2))
 have c4:=ratSub_fn (rdO q.2) (rdO p.2) (okO_rdO _) (okO_rdO _)
 have c5:=ratSub_fn (rdO r.1) (rdO p.1) (okO_rdO _) (okO_rdO _)
 have c6:=ratMul_fn _ _ (okO_sub (rdO q.2) (rdO p.2)) (okO_sub (rdO r.1) (rdO p.1))
 have c7:=ratSub_fn (mulO (subO (rdO q.1) (rdO p.1)) (subO (rdO r.2) (rdO p.2))) (mulO (subO (rdO q.2) (rdO p.2)) (subO (rdO r.1) (rdO p.1))) (okO_mul _ _) (okO_mul _ _)
 have c8:=ratSign_fn (subO (mulO (subO (rdO q.1) (rdO p.1)) (subO (rdO r.2) (rdO p.2))) (mulO (subO (rdO q.2) (rdO p.2)) (subO (rdO r.1) (rdO p.1))))
 rw [okR_oD p1,okR_oD q1] at c1
 rw [okR_oD p2,okR_oD r2] at c2
 rw [okR_oD p2,okR_oD q2] at c4
 rw [okR_oD p1,okR_oD r1] at c5
 unfold sdP
 refine fe Tryz.func120 Tryz.ntmps120 Tryz.results120 fun hwf=>?_
 try simp (maxSteps:=9^9) only[go_sem]
 repeat refine AI ?_
 refine cw c1 ?_
 try simp (maxSteps:=9^9) only[go_sem]
 repeat refine AI ?_
 refine cw c2 ?_
 try simp (maxSteps:=9^9) only[go_sem]
 repeat refine AI ?_
 refine cw c3 ?_
 try simp (maxSteps:=9^9) only[go_sem]
 repeat refine AI ?_
 refine cw c4 ?_
 try simp (maxSteps:=9^9) only[go_sem]
 repeat refine AI ?_
 refine cw c5 ?_
 try simp (maxSteps:=9^9) only[go_sem]
 repeat refine AI ?_
 refine cw c6 ?_
 try simp (maxSteps:=9^9) only[go_sem]
 repeat refine AI ?_
 refine cw c7 ?_
 try simp (maxSteps:=9^9) only[go_sem]
 repeat refine AI ?_
 refine cw c8 ?_
 try simp (maxSteps:=9^9) only[go_sem]
 all_goals repeat refine AI ?_
 all_goals first|kernel_rfl|omega|rfl
def ptV (v:DV):DP:=(ratI v.1,ratI v.2)
theorem PointOfI_fn (v:DV):Fn Tryz.prog 121 [⟨tVec,v⟩] true [⟨tPoint,ptV v⟩]:=by
 have c1:=ratInt_fn v.1
 have c2:=ratInt_fn v.2
 unfold ptV
 refine fe Tryz.func121 Tryz.ntmps121 Tryz.results121 fun hwf=>?_
 try simp (maxSteps:=9^9) only[go_sem]
 repeat refine AI ?_
 refine cw c1 ?_
 try simp (maxSteps:=9^9) only[go_sem]
 repeat refine AI ?_
 refine cw c2 ?_
 try simp (maxSteps:=9^9) only[go_sem]
 all_goals repeat refine AI ?_
 all_goals first|kernel_rfl|omega|rfl
theorem PointOfS_fn (v:DV):Fn Tryz.prog 44 [⟨tVec,v⟩] true [⟨tPoint,ptV v⟩]:=by
 have c1:=RatFromInt_fn v.1
 have c2:=RatFromInt_fn v.2
 unfold ptV
 refine fe Tryz.func44 Tryz.ntmps44 Tryz.results44 fun hwf=>?_
 try simp (maxSteps:=9^9) only[go_sem]
 repeat refine AI ?_
 refine cw c1 ?_
 try simp (maxSteps:=9^9) only[go_sem]
 repeat refine AI ?_
 refine cw c2 ?_
 try simp (maxSteps:=9^9) only[go_sem]
 all_goals repeat refine AI ?_
 all_goals first|kernel_rfl|omega|rfl
theorem okR_ratI {n:Int} (h1:-1000<=n) (h2:n<=1000):okR (ratI n)=true:=by
 have ho:okO (some ((n:Int):Rat)):=by
  intro q hq; injection hq with hq; subst hq
  exact ⟨Nat.le_trans (nl_small (n:=n.natAbs) (by omega)) (by decide),Nat.le_trans (nl_small (n:=1) (by decide)) (by decide)⟩
 rw [show ratI n=oD (some ((n:Int):Rat)) from ratI_eq n]
 unfold okR
 rw [rdO_oD ho]; rfl
theorem okPt_ptV {v:DV} (h:okV v=true):okPt (ptV v)=true:=by
 obtain ⟨b1,b2,b3,b4⟩:=okV_b h
 show (okR (ratI v.1) && okR (ratI v.2))=true
 rw [okR_ratI b1 b2,okR_ratI b3 b4]; rfl
def mapp (l:List DV) (i:Nat):List DP:=(l.take i).map ptV
theorem mapp_step {l:List DV} {i:Nat} (h:i < l.length):mapp l (i+1)=mapp l i++[ptV (nth (t:=tVec) l i)]:=by
 unfold mapp
 rw [List.take_succ_eq_append_getElem h,nth_lt h,List.map_append]
 rfl
theorem mapp_len {l:List DV} {i:Nat} (h:i<=l.length):(mapp l i).length=i:=by
 unfold mapp
 rw [List.length_map,List.length_take]; omega
theorem mapp_all {l:List DV} {i:Nat} (h:l.length<=i):mapp l i=l.map ptV:=by
 unfold mapp
 rw [List.take_of_length_le h]
theorem pointsOf_fn (l:List DV) (hn:l.length<=1048576):Fn Tryz.prog 80 [⟨.slice tVec,l⟩] true [⟨.slice tPoint,l.map ptV⟩]:=by
 refine fe Tryz.func80 Tryz.ntmps80 Tryz.results80 fun hwf=>?_
 try simp (maxSteps:=9^9) only[go_sem]
 refine LoopG.intro _ _ _ (fun i:Nat=>⟨[(3,.row 0 0),(7,.sl tVec l),(8,.sc (.int .i64 l.length)),(9,.sc (.int .i64 i))],[(0,.row 37 tPoint 0 true (mapp l i))]⟩) (fun i=>i<=l.length) (fun i=>l.length - i) 0 ?_ (Nat.zero_le _) ?_
 ·refine Wk.mk [] ?_
  try simp (maxSteps:=9^9) only[go_sem]
  try (and_intros<;>first|rfl|omega|exact ⟨_,rfl⟩)
  all_goals (first|exact ⟨rfl,rfl⟩|rfl)
 ·rintro i hi
  try simp (maxSteps:=9^9) only[go_sem]
  refine CondW_dec (fun hA=>?_) (fun hA=>?_)
  ·have hlt:i < l.length:=by omega
   have hml:=mapp_len (l:=l) (i:=i) (by omega)
   have e:=mapp_step hlt
   have c2:=PointOfI_fn (nth (t:=tVec) l i)
   try simp (maxSteps:=9^9) only[go_sem]
   repeat refine AI ?_
   repeat refine AI ?_
   refine cw c2 ?_
   try simp (maxSteps:=9^9) only[go_sem]
   try simp (maxSteps:=9^9) only[go_sem,hml]
   repeat refine AI ?_
   refine LoopK.mk (i+1) ?_ (by omega) (by omega)
   rw [e]
   refine Wk.mk [] ?_
   try simp (maxSteps:=9^9) only[go_sem]
   try (and_intros<;>first|rfl|omega|exact ⟨_,rfl⟩)
   all_goals (first|exact ⟨by omega,rfl⟩|exact ⟨rfl,rfl⟩)
  ·rw [mapp_all (by omega)]
   try simp (maxSteps:=9^9) only[go_sem]
noncomputable def cntI (l:List DV) (p:DP):Nat->Int
 | 0=>1
 | i+1=>min (cntI l p i) (sdP (ptV (nth (t:=tVec) l i)) (ptV (nth (t:=tVec) l (nxt l.length i).toNat)) p)
theorem nth_ptV {l:List DV} {i:Nat} (h:i < l.length):nth (t:=tPoint) (l.map ptV) i=ptV (nth (t:=tVec) l i):=by
 rw [nth_lt (t:=tVec) h,nth_lt (t:=tPoint) (l:=l.map ptV) (by rw [List.length_map]; exact h),List.getElem_map]
theorem contains_fn (l:List DV) (p:DP) (hl:∀ v ∈ l,okV v=true) (hn:l.length<=1048576) (hp:okPt p=true):Fn Tryz.prog 79 [⟨.slice tVec,l⟩,⟨tPoint,p⟩] false [⟨.int,cntI l p l.length⟩]:=by
 have c1:=pointsOf_fn l hn
 have hml:(l.map ptV).length=l.length:=List.length_map ..
 refine fe Tryz.func79 Tryz.ntmps79 Tryz.results79 fun hwf=>?_
 try simp (maxSteps:=9^9) only[go_sem]
 repeat refine AI ?_
 refine cw c1 ?_
 try simp (maxSteps:=9^9) only[go_sem]
 try simp (maxSteps:=9^9) only[go_sem,hml]
 refine LoopG.intro _ _ _ (fun i:Nat=>⟨[(3,.ptr 0 0),(5,.sl tPoint (l.map ptV)),(6,.sc (.int .i64 (cntI l p i))),(11,.sl tPoint (l.map ptV)),(12,.sc (.int .i64 l.length)),(13,.sc (.int .i64 i))],[(0,.box (cel tPoint p))]⟩) (fun i=>i<=l.length) (fun i=>l.length - i) 0 ?_ (Nat.zero_le _) ?_
 ·refine Wk.mk [] ?_
  try simp (maxSteps:=9^9) only[go_sem]
  try (and_intros<;>first|rfl|omega|exact ⟨_,rfl⟩)
  trace_state
 ·rintro i hi
  try simp (maxSteps:=9^9) only[go_sem]
  refine CondW_dec (fun hA=>?_) (fun hA=>?_)
  ·have hlt:i < l.length:=by omega
   have hr:=nxt_rng (n:=l.length) (i:=i) (by omega)
   have hr2:(nxt l.length i).toNat < l.length:=by omega
   have c2:=side_fn (ptV (nth (t:=tVec) l i)) (ptV (nth (t:=tVec) l (nxt l.length i).toNat)) p (okPt_ptV (hl _ (nth_mem hlt))) (okPt_ptV (hl _ (nth_mem hr2))) hp
   rw [<-nth_ptV hlt,<-nth_ptV hr2] at c2
   unfold nxt at hr hr2 c2
   try simp (maxSteps:=9^9) only[go_sem,hml]
   repeat refine AI ?_
   refine RemW.pos (by omega) (by omega) ?_
   try simp (maxSteps:=9^9) only[go_sem,hml]
   repeat refine AI ?_
   refine cw c2 ?_
   try simp (maxSteps:=9^9) only[go_sem]
   repeat refine AI ?_
   have hst:cntI l p (i+1)=min (cntI l p i) (sdP (nth (t:=tPoint) (l.map ptV) i) (nth (t:=tPoint) (l.map ptV) (((i:Int)+1) % (l.length:Int)).toNat) p):=by
    rw [nth_ptV hlt,nth_ptV hr2]; rfl
   refine LoopK.mk (i+1) ?_ (by omega) (by omega)
   rw [hst]
   exact WK
  ·rw [show l.length=i by omega]
   try simp (maxSteps:=9^9) only[go_sem]
   all_goals repeat refine AI ?_
   all_goals first|kernel_rfl|omega|rfl
def crs (u v:DV):Int:=u.1 * v.2 - u.2 * v.1
def dt (u v:DV):Int:=u.1 * v.1+u.2 * v.2
def sbV (a b:DV):DV:=(a.1 - b.1,a.2 - b.2)
def Rt (d:DV):Prop:=0 < d.1\/d.1=0/\0 < d.2
theorem Rt_of {a b:DV} (h:ltV a b):Rt (sbV b a):=by unfold ltV at h; unfold Rt sbV; simp only; omega
theorem crs_nn {u v w:DV} (hu:Rt u) (hv:Rt v) (hw:Rt w) (h1:0<=crs u v) (h2:0<=crs v w):0<=crs u w:=by
 have key:v.1 * crs u w=u.1 * crs v w+w.1 * crs u v:=by unfold crs; grind
 have u1:0<=u.1:=by unfold Rt at hu; omega
 have w1:0<=w.1:=by unfold Rt at hw; omega
 rcases hv with hv|⟨hv,hv2⟩
 ·by_cases hc:0<=crs u w
  ·exact hc
  ·have h3:=Int.mul_neg_of_pos_of_neg hv (show crs u w < 0 by omega)
   have h4:=Int.mul_nonneg u1 h2
   have h5:=Int.mul_nonneg w1 h1
   omega
 ·have e:crs v w=-(v.2 * w.1):=by unfold crs; rw [hv]; grind
  have hw0:w.1=0:=by
   by_cases hp:0 < w.1
   ·have:=Int.mul_pos hv2 hp
    omega
   ·omega
  have hw2:0 < w.2:=by unfold Rt at hw; omega
  have e2:crs u w=u.1 * w.2:=by unfold crs; rw [hw0]; grind
  rw [e2]
  exact Int.mul_nonneg u1 (Int.le_of_lt hw2)
theorem crs_sw (u v:DV):crs u v=- crs v u:=by unfold crs; grind
theorem crs_pn {u v w:DV} (hu:Rt u) (hv:Rt v) (hw:Rt w) (h1:0 < crs u v) (h2:0<=crs v w):0 < crs u w:=by
 have h3:=crs_nn hu hv hw (Int.le_of_lt h1) h2
 by_cases hc:crs u w=0
 ·have h4:=crs_nn hv hw hu h2 (by rw [crs_sw]; omega)
  rw [crs_sw] at h4
  omega
 ·omega
theorem crs_np {u v w:DV} (hu:Rt u) (hv:Rt v) (hw:Rt w) (h1:0<=crs u v) (h2:0 < crs v w):0 < crs u w:=by
 have h3:=crs_nn hu hv hw h1 (Int.le_of_lt h2)
 by_cases hc:crs u w=0
 ·have h4:=crs_nn hw hu hv (by rw [crs_sw]; omega) h1
  rw [crs_sw] at h4
  omega
 ·omega
theorem trn_crs (a b c:DV):trn a b c=crs (sbV b a) (sbV c a):=rfl
theorem trn_crs2 (a b c:DV):trn a b c=crs (sbV b a) (sbV c b):=by unfold trn crs sbV; grind
theorem trn_add (a b x y:DV):trn a b y=crs (sbV b a) (sbV y x)+trn a b x:=by unfold trn crs sbV; grind
theorem trn_aa (a b:DV):trn a b a=0:=by unfold trn; grind
theorem trn_bb (a b:DV):trn a b b=0:=by unfold trn; grind
def edg:List DV->List (DV × DV)
 | b :: a :: l=>(a,b) :: edg (a :: l)
 | _=>[]
def dir (e:DV × DV):DV:=sbV e.2 e.1
theorem edg_cons {v b:DV} {l:List DV}:edg (v :: b :: l)=(b,v) :: edg (b :: l):=rfl
theorem edg_mem:∀ {r:List DV} {e:DV × DV},e ∈ edg r->e.1 ∈ r/\e.2 ∈ r
 | [],e,h=>by simp [edg] at h
 | [a],e,h=>by simp [edg] at h
 | b :: a :: l,e,h=>by
  rw [edg_cons] at h
  rcases List.mem_cons.1 h with rfl|h
  ·exact ⟨by simp,by simp⟩
  ·obtain ⟨h1,h2⟩:=edg_mem h
   exact ⟨List.mem_cons_of_mem _ h1,List.mem_cons_of_mem _ h2⟩
structure ChOK (P:DV->Prop) (r:List DV):Prop where
 desc:r.Pairwise (fun x y=>ltV y x)
 cvx:(edg r).Pairwise (fun e f=>0 < crs (dir f) (dir e))
 low:∀ e ∈ edg r,∀ p,P p->0<=trn e.1 e.2 p
 str:∀ e ∈ edg r,∀ x ∈ r,x=e.1\/x=e.2\/0 < trn e.1 e.2 x
 sub:∀ x ∈ r,P x
theorem edg_lt:∀ {r:List DV} {e:DV × DV},r.Pairwise (fun x y=>ltV y x)->e ∈ edg r->ltV e.1 e.2
 | [],e,_,h=>by simp [edg] at h
 | [a],e,_,h=>by simp [edg] at h
 | b :: a :: l,e,hd,h=>by
  rw [edg_cons] at h
  rw [List.pairwise_cons] at hd
  rcases List.mem_cons.1 h with rfl|h
  ·exact hd.1 a (by simp)
  ·exact edg_lt hd.2 h
theorem ChOK.tail {P:DV->Prop} {b:DV} {l:List DV} (h:ChOK P (b :: l)):ChOK P l:=by
 have hd:=(List.pairwise_cons.1 h.desc).2
 cases l with
 | nil=>exact ⟨List.Pairwise.nil,List.Pairwise.nil,(fun e he=>by simp [edg] at he),(fun e he=>by simp [edg] at he),(fun x hx=>by simp at hx)⟩
 | cons a l =>
  have hc:=h.cvx
  rw [edg_cons] at hc
  exact ⟨hd,(List.pairwise_cons.1 hc).2,fun e he=>h.low e (by rw [edg_cons]; exact List.mem_cons_of_mem _ he),fun e he x hx=>h.str e (by rw [edg_cons]; exact List.mem_cons_of_mem _ he) x (List.mem_cons_of_mem _ hx),fun x hx=>h.sub x (List.mem_cons_of_mem _ hx)⟩
structure Popped (P:DV->Prop) (v:DV) (r:List DV) (b:DV) (l:List DV):Prop where
 ok:ChOK P (b :: l)
 last:∀ x,r.getLast? = some x->(b :: l).getLast? = some x
 stop:∀ a l',l=a :: l'->0 < trn a b v
 gone:(∃ l',r=b :: l')\/∃ c,ltV b c/\P c/\trn b c v<=0/\∀ p,P p->0<=trn b c p
theorem popD_ok {P:DV->Prop} {v:DV}:∀ {r:List DV} {b0:DV} {l0:List DV},r=b0 :: l0->ChOK P r->∃ b l,popD v r=b :: l/\Popped P v r b l
 | [],_,_,h,_=>by cases h
 | [a],_,_,_,hc=>⟨a,[],rfl,hc,fun x hx=>hx,(fun a l' h=>by cases h),.inl ⟨[],rfl⟩⟩
 | b :: a :: l,_,_,_,hc=>by
  by_cases ht:trn a b v<=0
  ·obtain ⟨b',l',e,hp⟩:=popD_ok (v:=v) (r:=a :: l) rfl hc.tail
   refine ⟨b',l',by rw [popD,if_pos ht]; exact e,hp.ok,fun x hx=>hp.last x (by rw [List.getLast?_cons_cons] at hx; exact hx),hp.stop,.inr ?_⟩
   rcases hp.gone with ⟨l2,h2⟩|h2
   ·injection h2 with h2 _
    subst h2
    exact ⟨b,(List.pairwise_cons.1 hc.desc).1 a (by simp),hc.sub b (by simp),ht,fun p hp=>hc.low (a,b) (by rw [edg_cons]; simp) p hp⟩
   ·exact h2
  ·exact ⟨b,a :: l,by rw [popD,if_neg ht],hc,fun x hx=>hx,(fun a' l' h=>by injection h with h _; subst h; omega),.inl ⟨a :: l,rfl⟩⟩
theorem push_ok {P:DV->Prop} {v b m:DV} {r l:List DV} (hp:Popped P v r b l) (hv:∀ p,P p->ltV p v) (hm:r.getLast? = some m) (hmin:∀ p,P p->p=m\/ltV m p) (htop:∀ t l',r=t :: l'->∀ p,P p->p=t\/ltV p t) :
  ChOK (fun p=>p=v\/P p) (v :: b :: l):=by
 have hb:P b:=hp.ok.sub b (by simp)
 have hbv:=hv b hb
 have rv:=Rt_of hbv
 have hml:=hp.last m hm
 have left:∀ p,P p->ltV p b->0 < trn b v p:=by
  intro p hP hlt
  cases l with
  | nil =>
   simp at hml
   subst hml
   rcases hmin p hP with rfl|h
   ·exact absurd hlt (ltV_irrefl _)
   ·exact absurd hlt (ltV_asymm h)
  | cons a l' =>
   have h1:=hp.stop a l' rfl
   have h2:=hp.ok.low (a,b) (by rw [edg_cons]; simp) p hP
   have hab:=(List.pairwise_cons.1 hp.ok.desc).1 a (by simp)
   rw [trn_crs2] at h1 h2
   have h3:0<=crs (sbV b p) (sbV b a):=by
    have:crs (sbV b p) (sbV b a)=crs (sbV b a) (sbV p b):=by unfold crs sbV; grind
    rw [this]; exact h2
   have h4:=crs_np (Rt_of hlt) (Rt_of hab) rv h3 h1
   have:trn b v p=crs (sbV b p) (sbV v b):=by unfold trn crs sbV; grind
   rw [this]; exact h4
 have all:∀ p,P p->0<=trn b v p:=by
  intro p hP
  rcases ltV_tri p b with h|h|h
  ·exact Int.le_of_lt (left p hP h)
  ·subst h; rw [trn_aa]; exact Int.le_refl _
  ·rcases hp.gone with ⟨l',hr⟩|⟨c,h1,h2,h3,h4⟩
   ·rcases htop b l' hr p hP with rfl|h5
    ·exact absurd h (ltV_irrefl _)
    ·exact absurd h (ltV_asymm h5)
   ·have h5:=h4 p hP
    rw [trn_crs] at h3 h5
    rw [trn_crs]
    exact crs_nn rv (Rt_of h1) (Rt_of h) (by rw [crs_sw]; omega) h5
 have bend:∀ f ∈ edg (b :: l),0 < crs (dir f) (sbV v b):=by
  intro f hf
  cases l with
  | nil=>simp [edg] at hf
  | cons a l' =>
   have h1:=hp.stop a l' rfl
   rw [trn_crs2] at h1
   have hab:=(List.pairwise_cons.1 hp.ok.desc).1 a (by simp)
   have hc:=hp.ok.cvx
   rw [edg_cons] at hc hf
   rcases List.mem_cons.1 hf with rfl|hf
   ·exact h1
   ·have h2:=(List.pairwise_cons.1 hc).1 f hf
    have h3:=edg_lt (List.pairwise_cons.1 hp.ok.desc).2 hf
    exact crs_pn (Rt_of h3) (Rt_of hab) rv h2 (Int.le_of_lt h1)
 have oldv:∀ f ∈ edg (b :: l),0 < trn f.1 f.2 v:=by
  intro f hf
  have h1:=bend f hf
  have h2:=hp.ok.low f hf b hb
  rw [trn_add f.1 f.2 b v]
  unfold dir at h1
  omega
 refine ⟨List.pairwise_cons.2 ⟨fun x hx=>hv x (hp.ok.sub x hx),hp.ok.desc⟩,?_,?_,?_,?_⟩
 ·rw [edg_cons]
  exact List.pairwise_cons.2 ⟨fun f hf=>bend f hf,hp.ok.cvx⟩
 ·intro e he p hP
  rw [edg_cons] at he
  rcases List.mem_cons.1 he with rfl|he2
  ·rcases hP with rfl|hP
   ·show 0<=trn b p p; rw [trn_bb]; exact Int.le_refl _
   ·exact all p hP
  ·rcases hP with rfl|hP
   ·exact Int.le_of_lt (oldv e he2)
   ·exact hp.ok.low e he2 p hP
 ·intro e he x hx
  rw [edg_cons] at he
  rcases List.mem_cons.1 he with rfl|he2
  ·rcases List.mem_cons.1 hx with rfl|hx
   ·exact .inr (.inl rfl)
   ·rcases List.mem_cons.1 hx with rfl|hx
    ·exact .inl rfl
    ·exact .inr (.inr (left x (hp.ok.sub x (List.mem_cons_of_mem _ hx)) ((List.pairwise_cons.1 hp.ok.desc).1 x hx)))
  ·rcases List.mem_cons.1 hx with rfl|hx
   ·exact .inr (.inr (oldv e he2))
   ·exact hp.ok.str e he2 x hx
 ·intro x hx
  rcases List.mem_cons.1 hx with rfl|hx
  ·exact .inl rfl
  ·exact .inr (hp.ok.sub x hx)
theorem chR_ok:∀ (n:Nat) {l:List DV},l.length=n+1->l.Pairwise ltV →
  ∃ t r,chR l=t :: r/\(chR l).getLast? = l.head?/\l.getLast? = some t/\ChOK (fun p=>p ∈ l) (chR l)
 | 0,l,hl,hs=>by
  match l,hl with
  | [a],_=>exact ⟨a,[],rfl,rfl,rfl,⟨List.pairwise_singleton _ _,List.Pairwise.nil,(fun e he=>by simp [chR,popD,edg] at he),(fun e he=>by simp [chR,popD,edg] at he),fun x hx=>hx⟩⟩
 | n+1,l,hl,hs=>by
  obtain ⟨l',v,rfl⟩:∃ l' v,l=l'++[v]:=⟨l.dropLast,l.getLast (by intro h; rw [h] at hl; simp at hl),(List.dropLast_concat_getLast _).symm⟩
  have hl':l'.length=n+1:=by simp at hl; omega
  rw [List.pairwise_append] at hs
  obtain ⟨hs1,_,hs3⟩:=hs
  obtain ⟨t,r,e1,e2,e3,hc⟩:=chR_ok n hl' hs1
  have hst:chR (l'++[v])=v :: popD v (chR l'):=by unfold chR; rw [List.foldl_append]; rfl
  obtain ⟨b,q,e4,hp⟩:=popD_ok (v:=v) e1 hc
  obtain ⟨m,l2,rfl⟩:∃ m l2,l'=m :: l2:=by
   cases l' with
   | nil=>simp at hl'
   | cons m l2=>exact ⟨m,l2,rfl⟩
  have hlast:(chR (m :: l2)).getLast? = some m:=e2
  have hpush:=push_ok hp (fun p hpm=>hs3 p hpm v (by simp)) hlast (fun p hpm=>by
   rcases List.mem_cons.1 hpm with h|h
   ·exact .inl h
   ·exact .inr ((List.pairwise_cons.1 hs1).1 p h)) (fun t' l3 ht p hpm=>by
   rw [e1] at ht
   injection ht with ht _
   subst ht
   have hgl:(m :: l2).getLast? = some t:=e3
   obtain ⟨ys,hys⟩:=List.getLast?_eq_some_iff.1 hgl
   rw [hys] at hpm hs1
   rw [List.pairwise_append] at hs1
   rcases List.mem_append.1 hpm with h|h
   ·exact .inr (hs1.2.2 p h t (by simp))
   ·exact .inl (by simpa using h))
  refine ⟨v,popD v (chR (m :: l2)),hst,?_,List.getLast?_concat,?_⟩
  ·rw [hst,e4,List.getLast?_cons_cons,hp.last m hlast]; rfl
  ·rw [hst,e4]
   refine ⟨hpush.desc,hpush.cvx,fun e he p hpm=>hpush.low e he p ?_,hpush.str,fun x hx=>?_⟩
   ·rcases List.mem_append.1 hpm with h|h
    ·exact .inr h
    ·exact .inl (by simpa using h)
   ·rcases hpush.sub x hx with rfl|h
    ·simp
    ·exact List.mem_append.2 (.inl h)
def ngV (v:DV):DV:=(-v.1,-v.2)
theorem ngV_ngV (v:DV):ngV (ngV v)=v:=by unfold ngV; simp
theorem trn_ng (a b c:DV):trn (ngV a) (ngV b) (ngV c)=trn a b c:=by unfold trn ngV; grind
theorem ltV_ng {a b:DV}:ltV (ngV a) (ngV b) ↔ ltV b a:=by unfold ltV ngV; simp only; omega
theorem popD_ng (v:DV):∀ r:List DV,popD (ngV v) (r.map ngV)=(popD v r).map ngV
 | []=>rfl
 | [a]=>rfl
 | b :: a :: l=>by
  have ih:=popD_ng v (a :: l)
  simp only [List.map_cons] at ih ⊢
  rw [popD,popD,trn_ng]
  split
  ·exact ih
  ·rfl
theorem chR_ng (l:List DV):chR (l.map ngV)=(chR l).map ngV:=by
 unfold chR
 have:∀ (l s:List DV),(l.map ngV).foldl (fun c v=>v :: popD v c) (s.map ngV)=(l.foldl (fun c v=>v :: popD v c) s).map ngV:=by
  intro l
  induction l with
  | nil=>intro s; rfl
  | cons a l ih =>
   intro s
   rw [List.map_cons,List.foldl_cons,List.foldl_cons,popD_ng]
   exact ih (a :: popD a s)
 exact this l []
def ngE (e:DV × DV):DV × DV:=(ngV e.1,ngV e.2)
theorem edg_ng:∀ r:List DV,edg (r.map ngV)=(edg r).map ngE
 | []=>rfl
 | [a]=>rfl
 | b :: a :: l=>by
  have ih:=edg_ng (a :: l)
  simp only [List.map_cons] at ih ⊢
  rw [edg_cons,edg_cons,ih]; rfl
theorem edg_ng_mem {r:List DV} {e:DV × DV} (h:e ∈ edg r):ngE e ∈ edg (r.map ngV):=by rw [edg_ng]; exact List.mem_map_of_mem h
theorem map_ng_ng (r:List DV):(r.map ngV).map ngV=r:=by
 rw [List.map_map,show (ngV ∘ ngV)=id from funext ngV_ngV,List.map_id]
theorem inner_of {P:DV->Prop} {x:DV}:∀ {r:List DV},ChOK P r->x ∈ r->r.head? = some x\/r.getLast? = some x\/∃ p q,(p,x) ∈ edg r/\(x,q) ∈ edg r/\0 < crs (sbV x p) (sbV q x)
 | [],_,h=>by simp at h
 | [a],_,h=>by simp at h; subst h; exact .inl rfl
 | q :: y :: l,hc,h=>by
  rcases List.mem_cons.1 h with rfl|h
  ·exact .inl rfl
  ·rcases inner_of hc.tail h with h1|h1|⟨p,q',h1,h2,h3⟩
   ·simp at h1
    subst h1
    cases l with
    | nil=>exact .inr (.inl rfl)
    | cons p l =>
     have hcv:=hc.cvx
     rw [edg_cons,edg_cons] at hcv
     refine .inr (.inr ⟨p,q,by rw [edg_cons,edg_cons]; simp,by rw [edg_cons]; simp,?_⟩)
     exact (List.pairwise_cons.1 hcv).1 (p,y) (by simp)
   ·exact .inr (.inl (by rw [List.getLast?_cons_cons]; exact h1))
   ·exact .inr (.inr ⟨p,q',by rw [edg_cons]; exact List.mem_cons_of_mem _ h1,by rw [edg_cons]; exact List.mem_cons_of_mem _ h2,h3⟩)
theorem cross_str {P:DV->Prop} {R R':List DV} (h:ChOK P R) (h':ChOK (fun p=>P (ngV p)) (R'.map ngV)) {x:DV} (hx:x ∈ R') :
  R'.head? = some x\/R'.getLast? = some x\/∀ e ∈ edg R,0 < trn e.1 e.2 x:=by
 have hx':ngV x ∈ R'.map ngV:=List.mem_map_of_mem hx
 have inj:∀ {a b:DV},ngV a=ngV b->a=b:=fun {a b} e=>by rw [<-ngV_ngV a,e,ngV_ngV]
 rcases inner_of h' hx' with h1|h1|⟨p,q,h1,h2,h3⟩
 ·rw [List.head?_map] at h1
  obtain ⟨a,ha,e⟩:=Option.map_eq_some_iff.1 h1
  exact .inl (by rw [ha,inj e])
 ·rw [List.getLast?_map] at h1
  obtain ⟨a,ha,e⟩:=Option.map_eq_some_iff.1 h1
  exact .inr (.inl (by rw [ha,inj e]))
 ·refine .inr (.inr fun e he=>?_)
  have hPp:P (ngV p):=h'.sub p (edg_mem h1).1
  have hPq:P (ngV q):=h'.sub q (edg_mem h2).2
  have hPx:P x:=by have:=h'.sub _ hx'; rw [ngV_ngV] at this; exact this
  have l1:=h.low e he _ hPp
  have l2:=h.low e he _ hPq
  have l3:=h.low e he _ hPx
  by_cases hz:trn e.1 e.2 x=0
  ·exfalso
   have hd:=Rt_of (edg_lt h.desc he)
   have ha:=Rt_of (edg_lt h'.desc h1)
   have hb:=Rt_of (edg_lt h'.desc h2)
   rw [trn_add e.1 e.2 x,hz] at l1 l2
   have e1:crs (sbV e.2 e.1) (sbV (ngV p) x)=crs (sbV e.2 e.1) (sbV (ngV x) p):=by unfold crs sbV ngV; grind
   have e2:crs (sbV e.2 e.1) (sbV (ngV q) x)=crs (sbV q (ngV x)) (sbV e.2 e.1):=by unfold crs sbV ngV; grind
   rw [e1] at l1
   rw [e2] at l2
   have:=crs_pn ha hb hd h3 (by show 0<=crs (sbV q (ngV x)) (sbV e.2 e.1); omega)
   rw [crs_sw] at this
   simp only at this
   omega
  ·omega
theorem edg_idx:∀ {r:List DV} {i:Nat},i+1 < r.length->(nth (t:=tVec) r (i+1),nth (t:=tVec) r i) ∈ edg r
 | [],i,h=>by simp at h
 | [a],i,h=>by simp at h
 | b :: a :: l,0,h=>by rw [edg_cons]; exact List.mem_cons_self
 | b :: a :: l,i+1,h=>by
  rw [edg_cons]
  refine List.mem_cons_of_mem _ ?_
  have:=edg_idx (r:=a :: l) (i:=i) (by simp at h ⊢; omega)
  simpa [nth] using this
theorem nth_rev {r:List DV} {i:Nat} (h:i < r.length):nth (t:=tVec) r.reverse i=nth (t:=tVec) r (r.length - 1 - i):=by
 rw [nth_lt (by rw [List.length_reverse]; exact h),nth_lt (by omega),List.getElem_reverse]
theorem nth_dl {r:List DV} {i:Nat} (h:i < r.length - 1):nth (t:=tVec) r.dropLast i=nth (t:=tVec) r i:=by
 rw [nth_lt (by rw [List.length_dropLast]; exact h),nth_lt (by omega),List.getElem_dropLast]
theorem nth_al {l m:List DV} {i:Nat} (h:i < l.length):nth (t:=tVec) (l++m) i=nth (t:=tVec) l i:=by
 rw [nth_lt (by rw [List.length_append]; omega),nth_lt h,List.getElem_append_left h]
theorem nth_ar {l m:List DV} {i:Nat} (h:l.length<=i) (h2:i < l.length+m.length):nth (t:=tVec) (l++m) i=nth (t:=tVec) m (i - l.length):=by
 rw [nth_lt (by rw [List.length_append]; omega),nth_lt (by omega),List.getElem_append_right h]
structure Cvx (P:DV->Prop) (H:List DV):Prop where
 three:3<=H.length
 nodup:H.Nodup
 str:∀ i,i < H.length->∀ x ∈ H,x=nth (t:=tVec) H i\/x=nth (t:=tVec) H (nxt H.length i).toNat\/0 < trn (nth (t:=tVec) H i) (nth (t:=tVec) H (nxt H.length i).toNat) x
 low:∀ i,i < H.length->∀ p,P p->0<=trn (nth (t:=tVec) H i) (nth (t:=tVec) H (nxt H.length i).toNat) p
 sub:∀ x ∈ H,P x
theorem nxt_lt {n i:Nat} (h:i+1 < n):(nxt n i).toNat=i+1:=by
 unfold nxt
 rw [Int.emod_eq_of_lt (by omega) (by omega)]; omega
theorem nxt_end {n i:Nat} (h:i+1=n):(nxt n i).toNat=0:=by
 unfold nxt
 rw [show ((i:Int)+1)=(n:Int) by omega,Int.emod_self]; rfl
theorem col0 {d u v:DV} (hd:d ≠ (0,0)) (h1:crs d u=0) (h2:crs d v=0):crs u v=0:=by
 have k1:d.1 * crs u v=u.1 * crs d v - v.1 * crs d u:=by unfold crs; grind
 have k2:d.2 * crs u v=u.2 * crs d v - v.2 * crs d u:=by unfold crs; grind
 rw [h1,h2,Int.mul_zero,Int.mul_zero,Int.sub_zero] at k1 k2
 rcases Int.mul_eq_zero.1 k1 with h|h
 ·rcases Int.mul_eq_zero.1 k2 with h'|h'
  ·exact absurd (Prod.ext h h') hd
  ·exact h'
 ·exact h
theorem nth_ap2 {l m:List DV} {x:DV} (k:Nat) (h:k=l.length):nth (t:=tVec) (l++x :: m) k=x:=by
 subst h
 rw [nth_lt (by simp),List.getElem_append_right (Nat.le_refl _)]
 simp
theorem nth_last {r:List DV} {x:DV} (h:r.getLast? = some x):nth (t:=tVec) r (r.length - 1)=x:=by
 obtain ⟨ys,rfl⟩:=List.getLast?_eq_some_iff.1 h
 rw [show (ys++[x]).length - 1=ys.length by simp]
 exact nth_ap2 _ rfl
theorem nth_head {r:List DV} {x:DV} (h:r.head? = some x):nth (t:=tVec) r 0=x:=by
 cases r with
 | nil=>simp at h
 | cons a r=>simp at h; exact h
theorem two_cvx {S R R':List DV} {m M:DV} (hm:m ∈ S) (hM:M ∈ S) (hmM:ltV m M) (hR:ChOK (fun p=>p ∈ S) R) (hR':ChOK (fun p=>ngV p ∈ S) (R'.map ngV)) (hh:R.head? = some M) (hl:R.getLast? = some m) (hh':R'.head? = some m) (hl':R'.getLast? = some M)
  (hn:∃ a ∈ S,∃ b ∈ S,∃ c ∈ S,trn a b c ≠ 0):Cvx (fun p=>p ∈ S) (R.reverse.dropLast++R'.reverse.dropLast):=by
 have inj:∀ {a b:DV},ngV a=ngV b->a=b:=fun {a b} e=>by rw [<-ngV_ngV a,e,ngV_ngV]
 have hne:m ≠ M:=fun h=>by subst h; exact ltV_irrefl _ hmM
 have k1:2<=R.length:=by
  match R,hh,hl with
  | [a],h1,h2=>simp at h1 h2; exact absurd (h2.symm.trans h1) hne
  | _ :: _ :: _,_,_=>simp
 have k2:2<=R'.length:=by
  match R',hh',hl' with
  | [a],h1,h2=>simp at h1 h2; exact absurd (h1.symm.trans h2) hne
  | _ :: _ :: _,_,_=>simp
 have mR:m ∈ R:=List.mem_of_getLast? hl
 have MR:M ∈ R:=List.mem_of_head? hh
 have mR':m ∈ R':=List.mem_of_head? hh'
 have MR':M ∈ R':=List.mem_of_getLast? hl'
 have hR2:ChOK (fun p=>ngV (ngV p) ∈ S) ((R.map ngV).map ngV):=by rw [map_ng_ng]; simpa [ngV_ngV] using hR
 have bnd:∀ e,(e ∈ edg R\/e ∈ edg R')->(∀ p ∈ S,0<=trn e.1 e.2 p)/\∀ x,(x ∈ R\/x ∈ R')->x=e.1\/x=e.2\/0 < trn e.1 e.2 x:=by
  rintro e (he|he)
  ·refine ⟨hR.low e he,fun x hx=>?_⟩
   rcases hx with hx|hx
   ·exact hR.str e he x hx
   ·rcases cross_str hR hR' hx with h|h|h
    ·rw [hh'] at h; injection h with h; subst h; exact hR.str e he m mR
    ·rw [hl'] at h; injection h with h; subst h; exact hR.str e he M MR
    ·exact .inr (.inr (h e he))
  ·have he':=edg_ng_mem he
   have key:∀ x,ngV x ∈ R'.map ngV->x=e.1\/x=e.2\/0 < trn e.1 e.2 x:=by
    intro x hx
    rcases hR'.str _ he' _ hx with h|h|h
    ·exact .inl (inj h)
    ·exact .inr (.inl (inj h))
    ·exact .inr (.inr (by rw [<-trn_ng]; exact h))
   refine ⟨fun p hp=>?_,fun x hx=>?_⟩
   ·have:=hR'.low _ he' (ngV p) (by rw [ngV_ngV]; exact hp)
    rw [<-trn_ng]; exact this
   ·rcases hx with hx|hx
    ·rcases cross_str hR' hR2 (List.mem_map_of_mem hx) with h|h|h
     ·rw [List.head?_map,hh] at h; injection h with h; rw [<-inj h]; exact key M (List.mem_map_of_mem MR')
     ·rw [List.getLast?_map,hl] at h; injection h with h; rw [<-inj h]; exact key m (List.mem_map_of_mem mR')
     ·exact .inr (.inr (by rw [<-trn_ng]; exact h _ he'))
    ·exact key x (List.mem_map_of_mem hx)
 have lL:R.reverse.length=R.length:=List.length_reverse
 have lU:R'.reverse.length=R'.length:=List.length_reverse
 have lLd:R.reverse.dropLast.length=R.length - 1:=by rw [List.length_dropLast,lL]
 have lUd:R'.reverse.dropLast.length=R'.length - 1:=by rw [List.length_dropLast,lU]
 have hH:(R.reverse.dropLast++R'.reverse.dropLast).length=(R.length - 1)+(R'.length - 1):=by rw [List.length_append,lLd,lUd]
 have iL:∀ i,i < R.length - 1->nth (t:=tVec) (R.reverse.dropLast++R'.reverse.dropLast) i=nth (t:=tVec) R (R.length - 1 - i):=fun i hi=>by
  rw [nth_al (by omega),nth_dl (by omega),nth_rev (by omega)]
 have iU:∀ j,j < R'.length - 1->nth (t:=tVec) (R.reverse.dropLast++R'.reverse.dropLast) (R.length - 1+j)=nth (t:=tVec) R' (R'.length - 1 - j):=fun j hj=>by
  rw [nth_ar (by omega) (by omega),lLd,show R.length - 1+j - (R.length - 1)=j by omega,nth_dl (by omega),nth_rev (by omega)]
 have r0:=nth_head hh
 have r1:=nth_last hl
 have s0:=nth_head hh'
 have s1:=nth_last hl'
 have iedg:∀ i,i < (R.length - 1)+(R'.length - 1)->(nth (t:=tVec) (R.reverse.dropLast++R'.reverse.dropLast) i,nth (t:=tVec) (R.reverse.dropLast++R'.reverse.dropLast) (nxt ((R.length - 1)+(R'.length - 1)) i).toNat) ∈ edg R\/(nth (t:=tVec) (R.reverse.dropLast++R'.reverse.dropLast) i,nth (t:=tVec) (R.reverse.dropLast++R'.reverse.dropLast) (nxt ((R.length - 1)+(R'.length - 1)) i).toNat) ∈ edg R':=by
  intro i hi
  by_cases h:i < R.length - 1
  ·left
   have e:=edg_idx (r:=R) (i:=R.length - 2 - i) (by omega)
   rw [nxt_lt (by omega),iL i h]
   have h2:nth (t:=tVec) (R.reverse.dropLast++R'.reverse.dropLast) (i+1)=nth (t:=tVec) R (R.length - 2 - i):=by
    by_cases h3:i+1 < R.length - 1
    ·rw [iL _ h3]; congr 1; omega
    ·rw [show i+1=R.length - 1+0 by omega,iU 0 (by omega),show R'.length - 1 - 0=R'.length - 1 by omega,s1,show R.length - 2 - i=0 by omega,r0]
   rw [h2,show R.length - 1 - i=R.length - 2 - i+1 by omega]
   exact e
  ·right
   obtain ⟨j,rfl⟩:∃ j,i=R.length - 1+j:=⟨i - (R.length - 1),by omega⟩
   have e:=edg_idx (r:=R') (i:=R'.length - 2 - j) (by omega)
   rw [iU j (by omega)]
   have h2:nth (t:=tVec) (R.reverse.dropLast++R'.reverse.dropLast) (nxt ((R.length - 1)+(R'.length - 1)) (R.length - 1+j)).toNat=nth (t:=tVec) R' (R'.length - 2 - j):=by
    by_cases h3:j+1 < R'.length - 1
    ·rw [nxt_lt (by omega),show R.length - 1+j+1=R.length - 1+(j+1) by omega,iU _ h3]; congr 1; omega
    ·rw [nxt_end (by omega),iL 0 (by omega),show R.length - 1 - 0=R.length - 1 by omega,r1,show R'.length - 2 - j=0 by omega,s0]
   rw [h2,show R'.length - 1 - j=R'.length - 2 - j+1 by omega]
   exact e
 have inH:∀ x,x ∈ R.reverse.dropLast++R'.reverse.dropLast->x ∈ R\/x ∈ R':=by
  intro x hx
  rcases List.mem_append.1 hx with h|h
  ·exact .inl (List.mem_reverse.1 (List.dropLast_subset _ h))
  ·exact .inr (List.mem_reverse.1 (List.dropLast_subset _ h))
 have subS:∀ x,(x ∈ R\/x ∈ R')->x ∈ S:=by
  rintro x (h|h)
  ·exact hR.sub x h
  ·have:=hR'.sub _ (List.mem_map_of_mem h); rw [ngV_ngV] at this; exact this
 have dL:R.reverse.Pairwise ltV:=List.pairwise_reverse.2 hR.desc
 have dU:R'.reverse.Pairwise (fun a b=>ltV b a):=by
  have:=hR'.desc
  rw [List.pairwise_map] at this
  exact List.pairwise_reverse.2 (this.imp fun {a b} h=>ltV_ng.1 h)
 have spL:R.reverse=R.reverse.dropLast++[M]:=by
  have:R.reverse.getLast? = some M:=by rw [List.getLast?_reverse]; exact hh
  obtain ⟨ys,hy⟩:=List.getLast?_eq_some_iff.1 this
  rw [hy]; simp
 have spU:R'.reverse=R'.reverse.dropLast++[m]:=by
  have:R'.reverse.getLast? = some m:=by rw [List.getLast?_reverse]; exact hh'
  obtain ⟨ys,hy⟩:=List.getLast?_eq_some_iff.1 this
  rw [hy]; simp
 have ltM:∀ x ∈ R.reverse.dropLast,ltV x M:=fun x hx=>by
  rw [spL] at dL
  exact (List.pairwise_append.1 dL).2.2 x hx M (by simp)
 have gtm:∀ x ∈ R'.reverse.dropLast,ltV m x:=fun x hx=>by
  rw [spU] at dU
  exact (List.pairwise_append.1 dU).2.2 x hx m (by simp)
 refine ⟨?_,?_,?_,?_,fun x hx=>subS x (inH x hx)⟩
 ·rw [hH]
  by_cases h:3<=R.length - 1+(R'.length - 1)
  ·exact h
  ·exfalso
   have h1:R.length=2:=by omega
   have h2:R'.length=2:=by omega
   have e1:=edg_idx (r:=R) (i:=0) (by omega)
   have e2:=edg_idx (r:=R') (i:=0) (by omega)
   rw [show 0+1=R.length - 1 by omega,r1,r0] at e1
   rw [show 0+1=R'.length - 1 by omega,s1,s0] at e2
   have z:∀ p ∈ S,crs (sbV M m) (sbV p m)=0:=fun p hp=>by
    have p1:=(bnd _ (.inl e1)).1 p hp
    have p2:=(bnd _ (.inr e2)).1 p hp
    have:trn M m p=- trn m M p:=by unfold trn; grind
    simp only at p1 p2
    rw [this] at p2
    rw [<-trn_crs]
    omega
   obtain ⟨a,ha,b,hb,c,hc,hne2⟩:=hn
   refine hne2 ?_
   rw [trn_crs]
   refine col0 (d:=sbV M m) (fun h=>?_) ?_ ?_
   ·have q1:=congrArg Prod.fst h
    have q2:=congrArg Prod.snd h
    unfold sbV at q1 q2
    simp only at q1 q2
    exact hne (Prod.ext (by omega) (by omega))
   ·have:crs (sbV M m) (sbV b a)=crs (sbV M m) (sbV b m) - crs (sbV M m) (sbV a m):=by unfold crs sbV; grind
    rw [this,z b hb,z a ha]; rfl
   ·have:crs (sbV M m) (sbV c a)=crs (sbV M m) (sbV c m) - crs (sbV M m) (sbV a m):=by unfold crs sbV; grind
    rw [this,z c hc,z a ha]; rfl
 ·rw [List.nodup_append]
  refine ⟨?_,?_,?_⟩
  ·exact (dL.sublist (List.dropLast_sublist _)).imp fun {a b} h e=>by subst e; exact ltV_irrefl _ h
  ·exact (dU.sublist (List.dropLast_sublist _)).imp fun {a b} h e=>by subst e; exact ltV_irrefl _ h
  ·rintro x hx y hy rfl
   have q1:=ltM x hx
   have q2:=gtm x hy
   have hxR':x ∈ R':=List.mem_reverse.1 (List.dropLast_subset _ hy)
   rcases cross_str hR hR' hxR' with h|h|h
   ·rw [hh'] at h; injection h with h; subst h; exact ltV_irrefl _ q2
   ·rw [hl'] at h; injection h with h; subst h; exact ltV_irrefl _ q1
   ·obtain ⟨i,hi,rfl⟩:=List.getElem_of_mem hx
    have hi2:i < R.length - 1:=by omega
    have e:=edg_idx (r:=R) (i:=R.length - 2 - i) (by omega)
    have e2:R.reverse.dropLast[i]=nth (t:=tVec) R (R.length - 2 - i+1):=by
     rw [<-nth_lt (t:=tVec) hi,nth_dl (by omega),nth_rev (by omega)]; congr 1; omega
    have:=h _ e
    rw [e2] at this
    simp only at this
    rw [trn_aa] at this
    omega
 ·intro i hi x hx
  rw [hH] at hi ⊢
  exact (bnd _ (iedg i hi)).2 x (inH x hx)
 ·intro i hi p hp
  rw [hH] at hi ⊢
  exact (bnd _ (iedg i hi)).1 p hp
theorem hull_cvx {S:List DV} (hs:S.Pairwise ltV) (hn:∃ a ∈ S,∃ b ∈ S,∃ c ∈ S,trn a b c ≠ 0):Cvx (fun p=>p ∈ S) (chD S++chD S.reverse):=by
 have hn':=hn
 obtain ⟨a,ha,b,hb,c,hc,hne⟩:=hn'
 obtain ⟨n,hnl⟩:∃ n,S.length=n+1:=⟨S.length - 1,by have:=List.length_pos_of_mem ha; omega⟩
 obtain ⟨t,r,e1,e2,e3,hR⟩:=chR_ok n hnl hs
 have hsr:(S.reverse.map ngV).Pairwise ltV:=by
  rw [List.pairwise_map,List.pairwise_reverse]
  exact hs.imp fun {a b} h=>ltV_ng.2 h
 obtain ⟨t',r',f1,f2,f3,hR0⟩:=chR_ok n (l:=S.reverse.map ngV) (by rw [List.length_map,List.length_reverse]; exact hnl) hsr
 rw [chR_ng] at f1 f2 hR0
 have hR':ChOK (fun p=>(ngV p) ∈ S) ((chR S.reverse).map ngV):=by
  refine ⟨hR0.desc,hR0.cvx,fun e he p hp=>hR0.low e he p ?_,hR0.str,fun x hx=>?_⟩
  ·rw [show p=ngV (ngV p) from (ngV_ngV p).symm]
   exact List.mem_map_of_mem (List.mem_reverse.2 hp)
  ·obtain ⟨y,hy,rfl⟩:=List.mem_map.1 (hR0.sub x hx)
   rw [ngV_ngV]
   exact List.mem_reverse.1 hy
 have injO:∀ {a b:Option DV},a.map ngV=b.map ngV->a=b:=by
  intro a b h
  have:=congrArg (Option.map ngV) h
  simpa [Option.map_map,show (ngV ∘ ngV)=id from funext ngV_ngV] using this
 have g2:(chR S.reverse).getLast? = S.getLast?:=by
  rw [List.getLast?_map,List.head?_map] at f2
  rw [injO f2,List.head?_reverse]
 have g3:(chR S.reverse).head? = S.head?:=by
  have h1:((chR S.reverse).map ngV).head? = some t':=by rw [f1]; rfl
  rw [<-f3,List.head?_map,List.getLast?_map,List.getLast?_reverse] at h1
  exact injO h1
 have g1:(chR S).head? = S.getLast?:=by rw [e1,e3]; rfl
 obtain ⟨m,S',rfl⟩:∃ m S',S=m :: S':=by
  cases S with
  | nil=>simp at ha
  | cons m S'=>exact ⟨m,S',rfl⟩
 obtain ⟨M,hM1,hM2⟩:∃ M,(m :: S').getLast? = some M/\M ∈ S':=by
  cases S' with
  | nil =>
   simp at ha hb hc
   subst ha hb hc
   exact absurd (trn_aa _ _) hne
  | cons x S'=>exact ⟨(x :: S').getLast (by simp),by rw [List.getLast?_cons_cons,List.getLast?_eq_some_getLast],List.getLast_mem _⟩
 exact two_cvx (m:=m) (M:=M) (by simp) (List.mem_cons_of_mem _ hM2) ((List.pairwise_cons.1 hs).1 M hM2) hR hR' (g1.trans hM1) e2 g3 (g2.trans hM1) hn
theorem len_le_of_lt:∀ (N:Nat) (l:List Nat),l.Nodup->(∀ x ∈ l,x < N)->l.length<=N
 | 0,l,_,h=>by
  cases l with
  | nil=>simp
  | cons a l=>exact absurd (h a (by simp)) (by omega)
 | N+1,l,hd,h=>by
  by_cases hm:N ∈ l
  ·have h1:=List.length_erase_of_mem hm
   have h2:=len_le_of_lt N (l.erase N) (hd.erase N) fun x hx=>by
    have h3:=h x (List.mem_of_mem_erase hx)
    have h4:x ≠ N:=fun e=>by subst e; exact hd.not_mem_erase hx
    omega
   omega
  ·have:=len_le_of_lt N l hd fun x hx=>by
    have h3:=h x hx
    have h4:x ≠ N:=fun e=>by subst e; exact hm hx
    omega
   omega
theorem pigeon {n N:Nat} {R:Nat->Nat->Prop} (h:∀ i,i < n->∃ c,c < N/\R i c) (inj:∀ i j c,i < n->j < n->R i c->R j c->i=j):n<=N:=by
 have hf:∃ f:Nat->Nat,∀ i,i < n->f i < N/\R i (f i):=by
  refine ⟨fun i=>if hi:i < n then Classical.choose (h i hi) else 0,fun i hi=>?_⟩
  simp only [hi,dif_pos]
  exact Classical.choose_spec (h i hi)
 obtain ⟨f,hf⟩:=hf
 have h1:=len_le_of_lt N ((List.range n).map f) (by
  rw [List.nodup_iff_pairwise_ne,List.pairwise_map]
  have hr:(List.range n).Pairwise (fun a b=>a < b):=List.pairwise_lt_range
  refine (List.pairwise_iff_getElem.2 fun i j hi hj hij=>?_)
  simp only [List.length_range] at hi hj
  simp only [List.getElem_range]
  intro e
  have:=inj i j (f i) hi hj (hf i hi).2 (by rw [e]; exact (hf j hj).2)
  omega) (by
  intro x hx
  obtain ⟨i,hi,rfl⟩:=List.mem_map.1 hx
  exact (hf i (List.mem_range.1 hi)).1)
 simpa using h1
theorem sq_nn (a:Int):0<=a * a:=by
 rcases Int.le_total 0 a with h|h
 ·exact Int.mul_nonneg h h
 ·exact Int.mul_nonneg_of_nonpos_of_nonpos h h
theorem nd_inj {l:List DV} (h:l.Nodup) {i j:Nat} (hi:i < l.length) (hj:j < l.length) (e:l[i]=l[j]):i=j:=by
 rw [List.nodup_iff_pairwise_ne] at h
 rcases Nat.lt_trichotomy i j with h1|h1|h1
 ·exact absurd e (List.pairwise_iff_getElem.1 h i j hi hj h1)
 ·exact h1
 ·exact absurd e.symm (List.pairwise_iff_getElem.1 h j i hj hi h1)
theorem sb_ne {a b:DV} (h:a ≠ b):sbV a b ≠ (0,0):=by
 intro e
 unfold sbV at e
 have q1:=congrArg Prod.fst e
 have q2:=congrArg Prod.snd e
 simp only at q1 q2
 exact h (Prod.ext (by omega) (by omega))
theorem dt_pos {d:DV} (h:d ≠ (0,0)):0 < dt d d:=by
 unfold dt
 have h1:=sq_nn d.1
 have h2:=sq_nn d.2
 by_cases e1:d.1=0
 ·by_cases e2:d.2=0
  ·exact absurd (Prod.ext e1 e2) h
  ·have:d.2 * d.2 ≠ 0:=fun h=>(Int.mul_eq_zero.1 h).elim e2 e2
   omega
 ·have:d.1 * d.1 ≠ 0:=fun h=>(Int.mul_eq_zero.1 h).elim e1 e1
  omega
theorem pos_of_mul {a b c:Int} (h:a * b=c) (hb:0 < b) (hc:0<=c):0<=a:=by
 by_cases ha:0<=a
 ·exact ha
 ·have:=Int.mul_neg_of_neg_of_pos (show a < 0 by omega) hb
  omega
theorem pos_of_mul' {a b c:Int} (h:a * b=c) (hb:0 < b) (hc:0 < c):0 < a:=by
 have:=pos_of_mul h hb (Int.le_of_lt hc)
 by_cases ha:a=0
 ·subst ha; omega
 ·omega
theorem same_dir {d E c:DV} (hd:d ≠ (0,0)) (h0:crs d E=0) (h1:0 < crs E c) (h2:0<=crs d c):0 < dt d E:=by
 have hE:E ≠ (0,0):=fun h=>by subst h; unfold crs at h1; simp at h1
 have k:dt d E * crs E c=crs d c * dt E E - crs d E * dt E c:=by unfold dt crs; grind
 rw [h0,Int.zero_mul,Int.sub_zero] at k
 have n1:=pos_of_mul k h1 (Int.mul_nonneg h2 (Int.le_of_lt (dt_pos hE)))
 have k2:dt d E * dt d E+crs d E * crs d E=dt d d * dt E E:=by unfold dt crs; grind
 rw [h0,Int.mul_zero,Int.add_zero] at k2
 have n2:=Int.mul_pos (dt_pos hd) (dt_pos hE)
 by_cases hz:dt d E=0
 ·rw [hz,Int.mul_zero] at k2; omega
 ·omega
theorem nxt_cases {n i:Nat} (hi:i < n):(nxt n i).toNat=(if i+1 < n then i+1 else 0):=by
 split
 ·exact nxt_lt (by assumption)
 ·exact nxt_end (by omega)
theorem prev_of {n i:Nat} (hi:i < n):∃ h,h < n/\(nxt n h).toNat=i:=by
 by_cases h0:i=0
 ·exact ⟨n - 1,by omega,by rw [nxt_end (by omega),h0]⟩
 ·exact ⟨i - 1,by omega,by rw [nxt_lt (by omega)]; omega⟩
theorem corn {l:List DV} (h:polyP l) {i k:Nat} (hi:i < l.length) (hk:k < l.length) (h1:k ≠ i) (h2:k ≠ (nxt l.length i).toNat):0 < trn (nth (t:=tVec) l i) (nth (t:=tVec) l (nxt l.length i).toNat) (nth (t:=tVec) l k) :=
 h.2.2 i k hi hk (by omega) (by have:=nxt_rng (n:=l.length) (i:=i) (by omega); omega)
theorem third (n i j:Nat) (hn:3<=n):∃ k,k < n/\k ≠ i/\k ≠ j:=by
 by_cases h0:i ≠ 0/\j ≠ 0
 ·exact ⟨0,by omega,by omega,by omega⟩
 ·by_cases h1:i ≠ 1/\j ≠ 1
  ·exact ⟨1,by omega,by omega,by omega⟩
  ·exact ⟨2,by omega,by omega,by omega⟩
def edgV (l:List DV) (t:Nat):DV:=sbV (nth (t:=tVec) l (nxt l.length t).toNat) (nth (t:=tVec) l t)
theorem supp_edge {l:List DV} (h:polyP l) {d:DV} (hd:d ≠ (0,0)) {i j:Nat} (hi:i < l.length) (hj:j < l.length) (hne:nth (t:=tVec) l i ≠ nth (t:=tVec) l j) (hall:∀ x ∈ l,0<=crs d (sbV x (nth (t:=tVec) l i)))
  (hz:crs d (sbV (nth (t:=tVec) l j) (nth (t:=tVec) l i))=0):∃ t,t < l.length/\crs d (edgV l t)=0/\0 < dt d (edgV l t):=by
 have h3:3<=l.length:=by have:=h.1.1; omega
 have hij:i ≠ j:=fun e=>hne (by rw [e])
 by_cases c1:j=(nxt l.length i).toNat
 ·obtain ⟨k,hk,hk1,hk2⟩:=third l.length i j h3
  have ht:=corn h hi hk hk1 (by rw [<-c1]; exact hk2)
  have he:edgV l i=sbV (nth (t:=tVec) l j) (nth (t:=tVec) l i):=by unfold edgV; rw [<-c1]
  refine ⟨i,hi,by rw [he]; exact hz,?_⟩
  rw [he]
  rw [trn_crs,<-c1] at ht
  exact same_dir hd hz ht (hall _ (nth_mem hk))
 ·by_cases c2:i=(nxt l.length j).toNat
  ·obtain ⟨k,hk,hk1,hk2⟩:=third l.length i j h3
   have ht:=corn h hj hk hk2 (by rw [<-c2]; exact hk1)
   have he:edgV l j=sbV (nth (t:=tVec) l i) (nth (t:=tVec) l j):=by unfold edgV; rw [<-c2]
   have hz':crs d (sbV (nth (t:=tVec) l i) (nth (t:=tVec) l j))=0:=by
    have:crs d (sbV (nth (t:=tVec) l i) (nth (t:=tVec) l j))=- crs d (sbV (nth (t:=tVec) l j) (nth (t:=tVec) l i)):=by unfold crs sbV; grind
    rw [this,hz]; rfl
   refine ⟨j,hj,by rw [he]; exact hz',?_⟩
   rw [he]
   rw [trn_crs,<-c2] at ht
   refine same_dir hd hz' ht ?_
   have h4:=hall _ (nth_mem hk)
   have:crs d (sbV (nth (t:=tVec) l k) (nth (t:=tVec) l j))=crs d (sbV (nth (t:=tVec) l k) (nth (t:=tVec) l i)) - crs d (sbV (nth (t:=tVec) l j) (nth (t:=tVec) l i)):=by unfold crs sbV; grind
   omega
  ·exfalso
   obtain ⟨g,hg,hgi⟩:=prev_of hi
   have hr:=nxt_rng (n:=l.length) (i:=i) (by omega)
   have hn:(nxt l.length i).toNat < l.length:=by omega
   have t1:=corn h hi hj (Ne.symm hij) c1
   have t2:=corn h hg hj (fun e=>c2 (by rw [e]; exact hgi.symm)) (by rw [hgi]; exact Ne.symm hij)
   rw [hgi] at t2
   have a1:=hall _ (nth_mem hn)
   have a2:=hall _ (nth_mem hg)
   generalize nth (t:=tVec) l i=p at *
   generalize nth (t:=tVec) l j=q at *
   generalize nth (t:=tVec) l (nxt l.length i).toNat=s at *
   generalize nth (t:=tVec) l g=u at *
   have k1:trn p s q * dt d d=- (crs d (sbV s p) * dt d (sbV q p))+dt (sbV s p) d * crs d (sbV q p):=by unfold trn dt crs sbV; grind
   have k2:trn u p q * dt d d=crs d (sbV u p) * dt d (sbV q p) - crs d (sbV q p) * dt d (sbV u p):=by unfold trn dt crs sbV; grind
   rw [hz,Int.mul_zero,Int.add_zero] at k1
   rw [hz,Int.zero_mul,Int.sub_zero] at k2
   have m1:=Int.mul_pos t1 (dt_pos hd)
   have m2:=Int.mul_pos t2 (dt_pos hd)
   have n1:dt d (sbV q p) < 0:=by
    by_cases hq:dt d (sbV q p) < 0
    ·exact hq
    ·have:=Int.mul_nonneg a1 (show 0<=dt d (sbV q p) by omega)
     omega
   have n2:0 < dt d (sbV q p):=by
    by_cases hq:0 < dt d (sbV q p)
    ·exact hq
    ·have:=Int.mul_nonneg a2 (show 0<=- dt d (sbV q p) by omega)
     rw [Int.mul_neg] at this
     omega
   omega
def smV (a b:List DV):List DV:=a.flatMap fun p=>b.map (addV p)
theorem smV_mem {a b:List DV} {x:DV}:x ∈ smV a b ↔ ∃ p ∈ a,∃ q ∈ b,addV p q=x:=by
 unfold smV
 simp only [List.mem_flatMap,List.mem_map]
theorem dir_inj {P:DV->Prop} {H:List DV} (hH:Cvx P H) {i j:Nat} (hi:i < H.length) (hj:j < H.length) {E:DV} (h1:crs (edgV H i) E=0) (h2:0 < dt (edgV H i) E) (h3:crs (edgV H j) E=0) (h4:0 < dt (edgV H j) E):i=j:=by
 have hE:0 < dt E E:=dt_pos fun h=>by subst h; unfold dt at h2; simp at h2
 have k1:crs (edgV H i) (edgV H j) * dt E E=crs (edgV H i) E * dt E (edgV H j) - crs (edgV H j) E * dt E (edgV H i):=by unfold dt crs; grind
 rw [h1,h3,Int.zero_mul,Int.zero_mul,Int.sub_zero] at k1
 have z:crs (edgV H i) (edgV H j)=0:=by
  rcases Int.mul_eq_zero.1 k1 with h|h
  ·exact h
  ·omega
 have k2:dt (edgV H i) (edgV H j) * dt E E=dt (edgV H i) E * dt (edgV H j) E+crs (edgV H i) E * crs (edgV H j) E:=by unfold dt crs; grind
 rw [h1,Int.zero_mul,Int.add_zero] at k2
 have p:=pos_of_mul' k2 hE (Int.mul_pos h2 h4)
 by_cases hij:i=j
 ·exact hij
 ·exfalso
  have ri:=nxt_rng (n:=H.length) (i:=i) (by omega)
  have rj:=nxt_rng (n:=H.length) (i:=j) (by omega)
  have mi:nth (t:=tVec) H i ∈ H:=nth_mem hi
  have mj:nth (t:=tVec) H j ∈ H:=nth_mem hj
  have ndI:nth (t:=tVec) H i ≠ nth (t:=tVec) H j:=by
   rw [nth_lt hi,nth_lt hj]
   intro e
   exact hij (nd_inj hH.nodup _ _ e)
  have l1:=hH.low i hi _ (hH.sub _ mj)
  have l2:=hH.low j hj _ (hH.sub _ mi)
  have s1:=hH.str i hi _ mj
  have s2:=hH.str j hj _ mi
  unfold edgV at z p h1 h2 h3 h4
  have dd1:0 < dt (sbV (nth (t:=tVec) H (nxt H.length i).toNat) (nth (t:=tVec) H i)) (sbV (nth (t:=tVec) H (nxt H.length i).toNat) (nth (t:=tVec) H i)):=dt_pos fun h=>by rw [h] at h2; unfold dt at h2; simp at h2
  generalize nth (t:=tVec) H i=a at *
  generalize nth (t:=tVec) H j=b at *
  generalize nth (t:=tVec) H (nxt H.length i).toNat=a' at *
  generalize nth (t:=tVec) H (nxt H.length j).toNat=b' at *
  rw [trn_crs] at l1 l2
  have k3:crs (sbV b' b) (sbV a b) * dt (sbV a' a) (sbV a' a)=- (crs (sbV a' a) (sbV b a) * dt (sbV a' a) (sbV b' b)) - crs (sbV a' a) (sbV b' b) * dt (sbV a' a) (sbV a b):=by unfold dt crs sbV; grind
  rw [z,Int.zero_mul,Int.sub_zero] at k3
  have q1:=Int.mul_nonneg l2 (Int.le_of_lt dd1)
  have q2:=Int.mul_nonneg l1 (Int.le_of_lt p)
  have q3:crs (sbV a' a) (sbV b a) * dt (sbV a' a) (sbV b' b)=0:=by omega
  have q4:crs (sbV a' a) (sbV b a)=0:=by
   rcases Int.mul_eq_zero.1 q3 with h|h
   ·exact h
   ·omega
  have q5:crs (sbV b' b) (sbV a b)=0:=by
   have:crs (sbV b' b) (sbV a b) * dt (sbV a' a) (sbV a' a)=0:=by rw [k3,q3]; rfl
   rcases Int.mul_eq_zero.1 this with h|h
   ·exact h
   ·omega
  rw [trn_crs] at s1 s2
  rcases s1 with h|h|h
  ·exact ndI h.symm
  ·rcases s2 with h'|h'|h'
   ·exact ndI h'
   ·subst h h'
    have:dt (sbV b a) (sbV a b)=- dt (sbV b a) (sbV b a):=by unfold dt sbV; grind
    omega
   ·omega
  ·omega
theorem mink_le {a b H:List DV} (ha:polyP a) (hb:polyP b) (hH:Cvx (fun p=>p ∈ smV a b) H):H.length<=a.length+b.length:=by
 refine pigeon (R:=fun i c=>(c < a.length/\crs (edgV H i) (edgV a c)=0/\0 < dt (edgV H i) (edgV a c))\/(a.length<=c/\crs (edgV H i) (edgV b (c - a.length))=0/\0 < dt (edgV H i) (edgV b (c - a.length)))) ?_ ?_
 ·intro i hi
  have ri:=nxt_rng (n:=H.length) (i:=i) (by omega)
  have hn:(nxt H.length i).toNat < H.length:=by omega
  have h3:=hH.three
  have hlow:=hH.low i hi
  have nd:nth (t:=tVec) H (nxt H.length i).toNat ≠ nth (t:=tVec) H i:=by
   rw [nth_lt hn,nth_lt hi]
   intro e
   have e2:=nd_inj hH.nodup _ _ e
   have:=nxt_cases hi
   split at this<;>omega
  obtain ⟨p,hp,q,hq,e1⟩:=smV_mem.1 (hH.sub _ (nth_mem hi))
  obtain ⟨p',hp',q',hq',e2⟩:=smV_mem.1 (hH.sub _ (nth_mem hn))
  have hdd:edgV H i=sbV (nth (t:=tVec) H (nxt H.length i).toNat) (nth (t:=tVec) H i):=rfl
  have hd0:edgV H i ≠ (0,0):=by
   exact sb_ne nd
  have A:∀ x ∈ a,0<=crs (edgV H i) (sbV x p):=fun x hx=>by
   have h:=hlow (addV x q) (smV_mem.2 ⟨x,hx,q,hq,rfl⟩)
   rw [trn_crs,<-hdd,<-e1] at h
   have:sbV (addV x q) (addV p q)=sbV x p:=by unfold sbV addV; exact Prod.ext (by simp only; omega) (by simp only; omega)
   rw [this] at h; exact h
  have B:∀ y ∈ b,0<=crs (edgV H i) (sbV y q):=fun y hy=>by
   have h:=hlow (addV p y) (smV_mem.2 ⟨p,hp,y,hy,rfl⟩)
   rw [trn_crs,<-hdd,<-e1] at h
   have:sbV (addV p y) (addV p q)=sbV y q:=by unfold sbV addV; exact Prod.ext (by simp only; omega) (by simp only; omega)
   rw [this] at h; exact h
  have hz:crs (edgV H i) (sbV p' p)+crs (edgV H i) (sbV q' q)=0:=by
   have:edgV H i=(p'.1 - p.1+(q'.1 - q.1),p'.2 - p.2+(q'.2 - q.2)):=by
    rw [hdd,<-e1,<-e2]; unfold sbV addV; exact Prod.ext (by simp only; omega) (by simp only; omega)
   rw [this]; unfold crs sbV; grind
  have hA:=A p' hp'
  have hB:=B q' hq'
  have zA:crs (edgV H i) (sbV p' p)=0:=by omega
  have zB:crs (edgV H i) (sbV q' q)=0:=by omega
  obtain ⟨i1,hi1,f1⟩:=List.getElem_of_mem hp
  obtain ⟨i2,hi2,f2⟩:=List.getElem_of_mem hp'
  obtain ⟨j1,hj1,g1⟩:=List.getElem_of_mem hq
  obtain ⟨j2,hj2,g2⟩:=List.getElem_of_mem hq'
  rw [<-nth_lt (t:=tVec) hi1] at f1
  rw [<-nth_lt (t:=tVec) hi2] at f2
  rw [<-nth_lt (t:=tVec) hj1] at g1
  rw [<-nth_lt (t:=tVec) hj2] at g2
  by_cases hpp:p=p'
  ·have hqq:q ≠ q':=fun h=>nd (by rw [<-e1,<-e2,hpp,h])
   obtain ⟨t,ht,h1,h2⟩:=supp_edge hb hd0 hj1 hj2 (by rw [g1,g2]; exact hqq) (by rw [g1]; exact B) (by rw [g1,g2]; exact zB)
   exact ⟨a.length+t,by omega,.inr ⟨by omega,by rw [show a.length+t - a.length=t by omega]; exact ⟨h1,h2⟩⟩⟩
  ·obtain ⟨t,ht,h1,h2⟩:=supp_edge ha hd0 hi1 hi2 (by rw [f1,f2]; exact hpp) (by rw [f1]; exact A) (by rw [f1,f2]; exact zA)
   exact ⟨t,by omega,.inl ⟨ht,h1,h2⟩⟩
 ·rintro i j c hi hj (⟨_,h1,h2⟩|⟨hc,h1,h2⟩) (⟨_,h3,h4⟩|⟨hc',h3,h4⟩)
  ·exact dir_inj hH hi hj h1 h2 h3 h4
  ·omega
  ·omega
  ·exact dir_inj hH hi hj h1 h2 h3 h4
theorem hullD_of {l:List DV} (hn:∃ a ∈ l,∃ b ∈ l,∃ c ∈ l,trn a b c ≠ 0):Cvx (fun p=>p ∈ l) (hullD l):=by
 have hn':∃ a ∈ srtD l,∃ b ∈ srtD l,∃ c ∈ srtD l,trn a b c ≠ 0:=by
  obtain ⟨a,ha,b,hb,c,hc,h⟩:=hn
  exact ⟨a,srtD_mem.2 ha,b,srtD_mem.2 hb,c,srtD_mem.2 hc,h⟩
 have hC:=hull_cvx (srtD_srt l) hn'
 have h2:¬ (srtD l).length < 2:=by
  obtain ⟨a,ha,b,hb,c,hc,h⟩:=hn'
  intro hlt
  match hs:srtD l,ha,hb,hc with
  | [x],ha,hb,hc =>
   simp at ha hb hc
   subst ha hb hc
   exact h (trn_aa _ _)
  | _ :: _ :: _,_,_,_=>rw [hs] at hlt; simp at hlt; omega
 unfold hullD
 rw [if_neg h2]
 exact ⟨hC.three,hC.nodup,hC.str,fun i hi p hp=>hC.low i hi p (srtD_mem.2 hp),fun x hx=>srtD_mem.1 (hC.sub x hx)⟩
theorem trn_addV (c:DV) (x y z:DV):trn (addV x c) (addV y c) (addV z c)=trn x y z:=by unfold trn addV; grind
theorem sum_poly {a b:List DV} (ha:polyP a) (hb:polyP b) (hl:a.length+b.length<=16) (hs:∀ x ∈ smV a b,okV x=true):polyP (hullD (smV a b)):=by
 have la:3<=a.length:=by have:=ha.1.1; omega
 have lb:3<=b.length:=by have:=hb.1.1; omega
 have hC:=hullD_of (l:=smV a b) (by
  have m0:nth (t:=tVec) b 0 ∈ b:=nth_mem (by omega)
  have r0:(nxt a.length 0).toNat=1:=nxt_lt (by omega)
  refine ⟨_,smV_mem.2 ⟨_,nth_mem (l:=a) (i:=0) (by omega),_,m0,rfl⟩,_,smV_mem.2 ⟨_,nth_mem (l:=a) (i:=1) (by omega),_,m0,rfl⟩,_,smV_mem.2 ⟨_,nth_mem (l:=a) (i:=2) (by omega),_,m0,rfl⟩,?_⟩
  rw [trn_addV]
  have:=corn ha (i:=0) (k:=2) (by omega) (by omega) (by omega) (by omega)
  rw [r0] at this
  omega)
 have hle:=mink_le ha hb hC
 have h3:=hC.three
 refine ⟨⟨by omega,by omega⟩,fun v hv=>hs v (hC.sub v hv),fun i k hi hk n1 n2=>?_⟩
 have ri:=nxt_rng (n:=(hullD (smV a b)).length) (i:=i) (by omega)
 have hn:(nxt (hullD (smV a b)).length i).toNat < (hullD (smV a b)).length:=by omega
 have nd:∀ {j:Nat} (hj:j < (hullD (smV a b)).length),k ≠ j->nth (t:=tVec) (hullD (smV a b)) k ≠ nth (t:=tVec) (hullD (smV a b)) j:=by
  intro j hj hkj
  rw [nth_lt hk,nth_lt hj]
  intro e
  exact hkj (nd_inj hC.nodup _ _ e)
 rcases hC.str i hi _ (nth_mem hk) with h|h|h
 ·exact absurd h (nd hi (by omega))
 ·exact absurd h (nd hn (by omega))
 ·exact h
theorem nth_memT {t:Ty} {l:List t.den} {i:Nat} (h:i < l.length):nth l i ∈ l:=by rw [nth_lt h]; exact List.getElem_mem h
theorem indexFunc_vecC_fn (F:FuncId) (A:Ty) (x:A.den) (p:DV->Bool) (l:List DV) (hF:∀ y ∈ l,Fn Tryz.prog F (⟨tVec,y⟩ :: capD A x) false [⟨.bool,p y⟩]):Fn Tryz.prog 171 [⟨.slice tVec,l⟩,⟨.ext (.clo F) A,some x⟩] false [⟨.int,ixf (t:=tVec) p l⟩]:=by
 refine fe Tryz.func171 Tryz.ntmps171 Tryz.results171 fun hwf=>?_
 have hl:l.length<=9223372036854775807:=(hwf ⟨.slice tVec,l⟩ (by simp)).1
 try simp (maxSteps:=9^9) only[go_sem]
 refine LoopG.intro _ _ _ (fun i:Nat=>⟨[(0,.sl tVec l),(1,.ex (.clo F) A (some x)),(7,.sc (.int .i64 l.length)),(8,.sc (.int .i64 i))],[]⟩) (fun i=>∀ j < i,j < l.length->p (nth (t:=tVec) l j)=false) (fun i=>l.length - i) 0 ?_ (fun j h=>by simp at h) ?_
 ·exact WK
 ·rintro i h2
  try simp (maxSteps:=9^9) only[go_sem]
  refine CondW_dec (fun h3=>?_) (fun h3=>?_)
  ·have c1:=hF (nth (t:=tVec) l i) (nth_memT (t:=tVec) (by omega))
   try simp (maxSteps:=9^9) only[go_sem]
   repeat refine AI ?_
   repeat refine AI ?_
   refine CallD.mk (c1) ?_
   try simp (maxSteps:=9^9) only[go_sem]
   refine CondW_b (fun h4=>?_) (fun h4=>?_)
   ·try simp (maxSteps:=9^9) only[go_sem]
    exact (ixf_at (by omega) h4 (fun j hj=>h2 j hj (by omega))).symm
   ·try simp (maxSteps:=9^9) only[go_sem]
    repeat refine AI ?_
    refine LoopK.mk (i+1) ?_ (fun j hj hl=>?_) (by omega)
    ·exact WK
    ·by_cases hj2:j < i
     ·exact h2 j hj2 hl
     ·rw [show j=i by omega]; exact h4
  ·try simp (maxSteps:=9^9) only[go_sem]
   exact (ixf_none fun j hj=>h2 j (by omega) hj).symm
theorem containsFunc_vecC_fn (F:FuncId) (A:Ty) (x:A.den) (p:DV->Bool) (l:List DV) (hF:∀ y ∈ l,Fn Tryz.prog F (⟨tVec,y⟩ :: capD A x) false [⟨.bool,p y⟩]):Fn Tryz.prog 149 [⟨.slice tVec,l⟩,⟨.ext (.clo F) A,some x⟩] false [⟨.bool,l.any p⟩]:=by
 have c1:=indexFunc_vecC_fn F A x p l hF
 refine fe Tryz.func149 Tryz.ntmps149 Tryz.results149 fun hwf=>?_
 try simp (maxSteps:=9^9) only[go_sem]
 repeat refine AI ?_
 refine cw c1 ?_
 try simp (maxSteps:=9^9) only[go_sem]
 exact ixf_any
theorem areInC_fn (k:Int) (hk:0<=k/\k<=1000000) (v:DV):Fn Tryz.prog 150 [⟨tVec,v⟩,⟨.ext .ref .int,some k⟩] false [⟨.bool,!inB k v⟩]:=by
 have c1:=within_fn v.1 (-k) k
 have c2:=within_fn v.2 (-k) k
 unfold inB
 cases h:decide (-k<=v.1/\v.1<=k)<;>rw [h] at c1
 ·refine fe Tryz.func150 Tryz.ntmps150 Tryz.results150 fun hwf=>?_
  try simp (maxSteps:=9^9) only[go_sem]
  repeat refine AI ?_
  repeat refine AI ?_
  refine cw c1 ?_
  try simp (maxSteps:=9^9) only[go_sem]
  all_goals repeat refine AI ?_
  all_goals first|kernel_rfl|omega|rfl
 ·refine fe Tryz.func150 Tryz.ntmps150 Tryz.results150 fun hwf=>?_
  try simp (maxSteps:=9^9) only[go_sem]
  repeat refine AI ?_
  repeat refine AI ?_
  refine cw c1 ?_
  try simp (maxSteps:=9^9) only[go_sem]
  repeat refine AI ?_
  repeat refine AI ?_
  refine cw c2 ?_
  try simp (maxSteps:=9^9) only[go_sem]
  all_goals repeat refine AI ?_
  all_goals first|kernel_rfl|omega|rfl
theorem areIn_fn (k:Int) (hk:0<=k/\k<=1000000) (l:List DV):Fn Tryz.prog 113 [⟨.int,k⟩,⟨.slice tVec,l⟩] false [⟨.bool,!(l.any fun v=>!inB k v)⟩]:=by
 have c1:=containsFunc_vecC_fn 150 (.ext .ref .int) (some k) (fun v=>!inB k v) l (fun y _=>areInC_fn k hk y)
 refine fe Tryz.func113 Tryz.ntmps113 Tryz.results113 fun hwf=>?_
 try simp (maxSteps:=9^9) only[go_sem]
 repeat refine AI ?_
 repeat refine AI ?_
 refine CallK.mk (c1) ?_
 try simp (maxSteps:=9^9) only[go_sem]
 all_goals repeat refine AI ?_
 all_goals first|kernel_rfl|omega|rfl
def allIn (k:Int) (l:List DV):Bool:=!(l.any fun v=>!inB k v)
theorem allIn_t {k:Int} {l:List DV} (h:∀ i,i < l.length->inB k (nth (t:=tVec) l i)=true):allIn k l=true:=by
 unfold allIn
 rw [Bool.not_eq_true',List.any_eq_false]
 intro v hv
 obtain ⟨i,hi,rfl⟩:=List.getElem_of_mem hv
 have:=h i hi
 rw [nth_lt hi] at this
 rw [this]; decide
noncomputable def smB (l:List DV) (k:Int):Bool:=decide ((l.length:Int)<=5) && (polyB l && allIn k l)
theorem isSmall_fn (l:List DV) (k:Int) (hk:0<=k/\k<=1000000):Fn Tryz.prog 114 [⟨.slice tVec,l⟩,⟨.int,k⟩] false [⟨.bool,smB l k⟩]:=by
 have c1:=implIsPolygon_fn l
 unfold smB
 cases h1:decide ((l.length:Int)<=5)
 ·refine fe Tryz.func114 Tryz.ntmps114 Tryz.results114 fun hwf=>?_
  try simp (maxSteps:=9^9) only[go_sem,h1]
 ·cases h2:polyB l<;>rw [h2] at c1
  ·refine fe Tryz.func114 Tryz.ntmps114 Tryz.results114 fun hwf=>?_
   try simp (maxSteps:=9^9) only[go_sem,h1]
   repeat refine AI ?_
   refine cw c1 ?_
   try simp (maxSteps:=9^9) only[go_sem]
  ·have c2:Fn Tryz.prog 113 [⟨.int,k⟩,⟨.slice tVec,l⟩] false [⟨.bool,allIn k l⟩]:=areIn_fn k hk l
   refine fe Tryz.func114 Tryz.ntmps114 Tryz.results114 fun hwf=>?_
   try simp (maxSteps:=9^9) only[go_sem,h1]
   repeat refine AI ?_
   refine cw c1 ?_
   try simp (maxSteps:=9^9) only[go_sem]
   repeat refine AI ?_
   refine cw c2 ?_
   try simp (maxSteps:=9^9) only[go_sem]
theorem polyB_p {l:List DV} (h:polyB l=true):polyP l:=@of_decide_eq_true _ (Classical.propDecidable _) h
theorem poly_map {l:List DV} {f:DV->DV} (h:polyP l) (hok:∀ v ∈ l,okV (f v)=true) (ht:∀ a b c,trn (f a) (f b) (f c)=trn a b c):polyP (l.map f):=by
 have hn:∀ {k},k < l.length->nth (t:=tVec) (l.map f) k=f (nth (t:=tVec) l k):=fun {k} hk=>by
  rw [nth_lt (t:=tVec) hk,nth_lt (t:=tVec) (l:=l.map f) (by rw [List.length_map]; exact hk),List.getElem_map]
 refine ⟨by rw [List.length_map]; exact h.1,fun v hv=>?_,fun i k hi hk=>?_⟩
 ·obtain ⟨u,hu,rfl⟩:=List.mem_map.1 hv
  exact hok u hu
 ·rw [List.length_map] at hi hk
  have ri:=nxt_rng (n:=l.length) (i:=i) (by omega)
  have:=h.2.2 i k hi hk
  unfold cornOK at this ⊢
  rw [List.length_map,hn hi,hn hk,hn (by omega),ht]
  exact this
theorem trn_rot1 (a b c:DV):trn (rot1 a) (rot1 b) (rot1 c)=trn a b c:=by unfold trn rot1; grind
theorem trn_rot (a b c:DV):∀ n,trn (rotN n a) (rotN n b) (rotN n c)=trn a b c
 | 0=>rfl
 | n+1=>by
  show trn (rot1 (rotN n a)) (rot1 (rotN n b)) (rot1 (rotN n c))=_
  rw [trn_rot1,trn_rot a b c n]
theorem okV_neg {v:DV} (h:okV v=true):okV (negV v)=true:=by
 obtain ⟨h1,h2,h3,h4⟩:=okV_b h
 unfold negV
 exact okV_of (by simp only; omega) (by simp only; omega) (by simp only; omega) (by simp only; omega)
theorem poly_neg {l:List DV} (h:polyP l):polyP (l.map negV):=poly_map h (fun v hv=>okV_neg (h.2.1 v hv)) trn_ng
theorem poly_rot {l:List DV} (h:polyP l) (n:Nat):polyP (l.map (rotN n)):=poly_map h (fun v hv=>okV_rot (h.2.1 v hv) n) fun a b c=>trn_rot a b c n
theorem inB_b {k:Int} {v:DV} (h:inB k v=true):-k<=v.1/\v.1<=k/\-k<=v.2/\v.2<=k:=by
 unfold inB at h
 rw [Bool.and_eq_true] at h
 exact ⟨(of_decide_eq_true h.1).1,(of_decide_eq_true h.1).2,(of_decide_eq_true h.2).1,(of_decide_eq_true h.2).2⟩
theorem inB_of {k:Int} {v:DV} (h1:-k<=v.1) (h2:v.1<=k) (h3:-k<=v.2) (h4:v.2<=k):inB k v=true:=by
 unfold inB
 rw [Bool.and_eq_true,decide_eq_true_iff,decide_eq_true_iff]
 exact ⟨⟨h1,h2⟩,h3,h4⟩
theorem inB_rot {k:Int} {v:DV} (h:inB k v=true):∀ n,inB k (rotN n v)=true
 | 0=>h
 | n+1=>by
  obtain ⟨b1,b2,b3,b4⟩:=inB_b (inB_rot h n)
  show inB k (rot1 (rotN n v))=true
  unfold rot1
  exact inB_of (by simp only; omega) (by simp only; omega) (by simp only; omega) (by simp only; omega)
structure SmP (k:Int) (l:List DV):Prop where
 five:l.length<=5
 poly:polyP l
 ins:∀ v ∈ l,inB k v=true
theorem smB_p {l:List DV} {k:Int} (h:smB l k=true):SmP k l:=by
 unfold smB at h
 rw [Bool.and_eq_true,Bool.and_eq_true] at h
 obtain ⟨h1,h2,h3⟩:=h
 refine ⟨by have:=of_decide_eq_true h1; omega,polyB_p h2,fun v hv=>?_⟩
 unfold allIn at h3
 rw [Bool.not_eq_true',List.any_eq_false] at h3
 have:=h3 v hv
 simpa using this
theorem SmP.rot {k:Int} {l:List DV} (h:SmP k l) (n:Nat):SmP k (l.map (rotN n)) :=
 ⟨by rw [List.length_map]; exact h.five,poly_rot h.poly n,fun v hv=>by obtain ⟨u,hu,rfl⟩:=List.mem_map.1 hv; exact inB_rot (h.ins u hu) n⟩
theorem SmP.neg {k:Int} {l:List DV} (h:SmP k l):SmP k (l.map negV) :=
 ⟨by rw [List.length_map]; exact h.five,poly_neg h.poly,fun v hv=>by
  obtain ⟨u,hu,rfl⟩:=List.mem_map.1 hv
  obtain ⟨b1,b2,b3,b4⟩:=inB_b (h.ins u hu)
  unfold negV
  exact inB_of (by simp only; omega) (by simp only; omega) (by simp only; omega) (by simp only; omega)⟩
theorem SmP.ok {k:Int} {l:List DV} (h:SmP k l):∀ v ∈ l,okV v=true:=h.poly.2.1
theorem SmP.sum_ok {k m:Int} {a b:List DV} (ha:SmP k a) (hb:SmP m b) (hkm:k+m<=1000):∀ x ∈ smV a b,okV x=true:=by
 intro x hx
 obtain ⟨p,hp,q,hq,rfl⟩:=smV_mem.1 hx
 obtain ⟨b1,b2,b3,b4⟩:=inB_b (ha.ins p hp)
 obtain ⟨c1,c2,c3,c4⟩:=inB_b (hb.ins q hq)
 unfold addV
 exact okV_of (by simp only; omega) (by simp only; omega) (by simp only; omega) (by simp only; omega)
theorem SmP.sum {k m:Int} {a b:List DV} (ha:SmP k a) (hb:SmP m b) (hkm:k+m<=1000):polyP (hullD (smV a b)) :=
 sum_poly ha.poly hb.poly (by have:=ha.five; have:=hb.five; omega) (ha.sum_ok hb hkm)
def smI (a b:List DV) (i:Nat):List DV:=smV (a.take i) b
theorem smI_step {a b:List DV} {i:Nat} (h:i < a.length):smI a b (i+1)=smI a b i++b.map (addV (nth (t:=tVec) a i)):=by
 unfold smI smV
 rw [List.take_succ_eq_append_getElem h,nth_lt h,List.flatMap_append]
 simp
theorem smV_len (a b:List DV):(smV a b).length=a.length * b.length:=by
 unfold smV
 induction a with
 | nil=>simp
 | cons x a ih=>rw [List.flatMap_cons,List.length_append,ih,List.length_map,List.length_cons,Nat.succ_mul]; omega
theorem smI_len {a b:List DV} {i:Nat} (h:i<=a.length):(smI a b i).length=i * b.length:=by
 unfold smI; rw [smV_len,List.length_take,Nat.min_eq_left h]
theorem smI_all {a b:List DV} {i:Nat} (h:a.length<=i):smI a b i=smV a b:=by unfold smI; rw [List.take_of_length_le h]
theorem five_mul {i n:Nat} (h1:i<=5) (h2:n<=5):i * n<=25:=Nat.mul_le_mul h1 h2
theorem SumPolygonsI_fn {k m:Int} (a b:List DV) (ha:SmP k a) (hb:SmP m b) (hkm:k+m<=1000):Fn Tryz.prog 118 [⟨.slice tVec,a⟩,⟨.slice tVec,b⟩] true [⟨.slice tVec,hullD (smV a b)⟩]:=by
 have c1:=implIsPolygon_fn a
 have c2:=implIsPolygon_fn b
 rw [polyB_t ha.poly] at c1
 rw [polyB_t hb.poly] at c2
 have hab:=five_mul ha.five hb.five
 have l1:=ha.five
 have l2:=hb.five
 have hab':(a.length:Int) * (b.length:Int)<=25:=by exact_mod_cast hab
 have hab0:(0:Int)<=(a.length:Int) * (b.length:Int):=Int.mul_nonneg (by omega) (by omega)
 have d0:=decide_eq_false (p:=(a.length:Int) * (b.length:Int) > 64) (by omega)
 refine fe Tryz.func118 Tryz.ntmps118 Tryz.results118 fun hwf=>?_
 try simp (maxSteps:=9^9) only[go_sem]
 repeat refine AI ?_
 refine cw c1 ?_
 try simp (maxSteps:=9^9) only[go_sem]
 repeat refine AI ?_
 refine cw c2 ?_
 try simp (maxSteps:=9^9) only[go_sem]
 repeat refine AI ?_
 try simp (maxSteps:=9^9) only[go_sem,d0]
 refine LoopG.intro _ _ _ (fun i:Nat=>⟨[(1,.sl tVec b),(5,.row 0 0),(26,.sl tVec a),(27,.sc (.int .i64 a.length)),(28,.sc (.int .i64 i))],[(0,.row 24 tVec 0 true (smI a b i))]⟩) (fun i=>i<=a.length) (fun i=>a.length - i) 0 ?_ (Nat.zero_le _) ?_
 ·exact WK
 ·rintro i hi
  try simp (maxSteps:=9^9) only[go_sem]
  refine CondW_dec (fun hA=>?_) (fun hA=>?_)
  ·have hlt:i < a.length:=by omega
   have hml:=smI_len (a:=a) (b:=b) (i:=i) (by omega)
   have h25:=five_mul (i:=i) (n:=b.length) (by omega) l2
   have e:=smI_step (b:=b) hlt
   have c3:=moved_fn b (nth (t:=tVec) a i) (ha.ok _ (nth_mem hlt)) hb.ok (by omega)
   have hmm:(b.map (addV (nth (t:=tVec) a i))).length=b.length:=List.length_map ..
   try simp (maxSteps:=9^9) only[go_sem]
   repeat refine AI ?_
   repeat refine AI ?_
   refine cw c3 ?_
   try simp (maxSteps:=9^9) only[go_sem]
   try simp (maxSteps:=9^9) only[go_sem,hml,hmm]
   repeat refine AI ?_
   refine LoopK.mk (i+1) ?_ (by omega) (by omega)
   rw [e]
   exact WK
  ·rw [smI_all (by omega)]
   have hp:=ha.sum hb hkm
   have hsl:=smV_len a b
   have pos:0 < (smV a b).length:=by
    rw [hsl]
    have:=ha.poly.1.1
    have:=hb.poly.1.1
    exact Nat.mul_pos (by omega) (by omega)
   have c4:=HullOf_fn (smV a b) (ha.sum_ok hb hkm) pos (by omega)
   have c5:=implIsPolygon_fn (hullD (smV a b))
   rw [polyB_t hp] at c5
   try simp (maxSteps:=9^9) only[go_sem]
   repeat refine AI ?_
   refine cw c4 ?_
   try simp (maxSteps:=9^9) only[go_sem]
   repeat refine AI ?_
   refine cw c5 ?_
   try simp (maxSteps:=9^9) only[go_sem]
def obsD (r o:List DV):List DV:=hullD (smV o (r.map negV))
theorem ObstacleForI_fn {k m:Int} (r o:List DV) (hr:SmP k r) (ho:SmP m o) (hkm:m+k<=1000):Fn Tryz.prog 78 [⟨.slice tVec,r⟩,⟨.slice tVec,o⟩] true [⟨.slice tVec,obsD r o⟩]:=by
 have c1:=NegatePolygonI_fn r hr.ok (by have:=hr.five; omega)
 have c2:=SumPolygonsI_fn o (r.map negV) ho hr.neg hkm
 unfold obsD
 refine fe Tryz.func78 Tryz.ntmps78 Tryz.results78 fun hwf=>?_
 try simp (maxSteps:=9^9) only[go_sem]
 repeat refine AI ?_
 refine cw c1 ?_
 try simp (maxSteps:=9^9) only[go_sem]
 repeat refine AI ?_
 refine cw c2 ?_
 try simp (maxSteps:=9^9) only[go_sem]
theorem obs_poly {k m:Int} {r o:List DV} (hr:SmP k r) (ho:SmP m o) (hkm:m+k<=1000):polyP (obsD r o):=ho.sum hr.neg hkm
noncomputable def cpD (l:List DV) (p:DP):Int:=if okPt p then cntI l p l.length else -1
abbrev DSc:Type:=tScene.den
noncomputable def obsOK (l:List (List DV)):Bool:=!(l.any fun x=>!smB x 200)
noncomputable def sceneB (s:DSc):Bool:=allIn 200 [s.1,s.2.1] && (decide (s.1.1 < s.2.1.1) && (decide (s.1.2 < s.2.1.2) && (smB s.2.2.1 20 && (decide ((s.2.2.2.1.length:Int)<=4) && (obsOK s.2.2.2.1 && (decide ((s.2.2.2.2.length:Int)<=3) && allIn 200 s.2.2.2.2))))))
theorem indexFunc_vs_fn (F:FuncId) (p:(List DV)->Bool) (l:List (List DV)) (hF:∀ y ∈ l,Fn Tryz.prog F [⟨(.slice tVec),y⟩] false [⟨.bool,p y⟩]):Fn Tryz.prog 98 [⟨.slice (.slice tVec),l⟩,⟨.cst (.fn F),()⟩] false [⟨.int,ixf (t:=(.slice tVec)) p l⟩]:=by
 refine fe Tryz.func98 Tryz.ntmps98 Tryz.results98 fun hwf=>?_
 have hl:l.length<=9223372036854775807:=(hwf ⟨.slice (.slice tVec),l⟩ (by simp)).1
 try simp (maxSteps:=9^9) only[go_sem]
 refine LoopG.intro _ _ _ (fun i:Nat=>⟨[(0,.sl (.slice tVec) l),(1,.sc (.func (.func F) #[] #[])),(7,.sc (.int .i64 l.length)),(8,.sc (.int .i64 i))],[]⟩) (fun i=>∀ j < i,j < l.length->p (nth (t:=(.slice tVec)) l j)=false) (fun i=>l.length - i) 0 ?_ (fun j h=>by simp at h) ?_
 ·exact WK
 ·rintro i h2
  try simp (maxSteps:=9^9) only[go_sem]
  refine CondW_dec (fun h3=>?_) (fun h3=>?_)
  ·have c1:=hF (nth (t:=(.slice tVec)) l i) (nth_memT (t:=(.slice tVec)) (by omega))
   try simp (maxSteps:=9^9) only[go_sem]
   repeat refine AI ?_
   repeat refine AI ?_
   refine cw c1 ?_
   try simp (maxSteps:=9^9) only[go_sem]
   refine CondW_b (fun h4=>?_) (fun h4=>?_)
   ·try simp (maxSteps:=9^9) only[go_sem]
    exact (ixf_at (by omega) h4 (fun j hj=>h2 j hj (by omega))).symm
   ·try simp (maxSteps:=9^9) only[go_sem]
    repeat refine AI ?_
    refine LoopK.mk (i+1) ?_ (fun j hj hl=>?_) (by omega)
    ·exact WK
    ·by_cases hj2:j < i
     ·exact h2 j hj2 hl
     ·rw [show j=i by omega]; exact h4
  ·try simp (maxSteps:=9^9) only[go_sem]
   exact (ixf_none fun j hj=>h2 j (by omega) hj).symm
theorem containsFunc_vs_fn (F:FuncId) (p:(List DV)->Bool) (l:List (List DV)) (hF:∀ y ∈ l,Fn Tryz.prog F [⟨(.slice tVec),y⟩] false [⟨.bool,p y⟩]):Fn Tryz.prog 58 [⟨.slice (.slice tVec),l⟩,⟨.cst (.fn F),()⟩] false [⟨.bool,l.any p⟩]:=by
 have c1:=indexFunc_vs_fn F p l hF
 refine fe Tryz.func58 Tryz.ntmps58 Tryz.results58 fun hwf=>?_
 try simp (maxSteps:=9^9) only[go_sem]
 repeat refine AI ?_
 refine cw c1 ?_
 try simp (maxSteps:=9^9) only[go_sem]
 exact ixf_any
theorem isValidSceneC_fn (l:List DV):Fn Tryz.prog 115 [⟨.slice tVec,l⟩] false [⟨.bool,!smB l 200⟩]:=by
 have c1:=isSmall_fn l 200 (by decide)
 refine fe Tryz.func115 Tryz.ntmps115 Tryz.results115 fun hwf=>?_
 try simp (maxSteps:=9^9) only[go_sem]
 repeat refine AI ?_
 refine cw c1 ?_
 try simp (maxSteps:=9^9) only[go_sem]
 all_goals repeat refine AI ?_
 all_goals first|kernel_rfl|omega|rfl
set_option maxHeartbeats 2000000 in
theorem IsValidSceneI_fn' (a1 a2 b1 b2:Int) (r:List DV) (ob:List (List DV)) (tb:List DV):Fn Tryz.prog 75 [⟨tScene,((a1,a2),(b1,b2),r,ob,tb)⟩] false [⟨.bool,sceneB ((a1,a2),(b1,b2),r,ob,tb)⟩]:=by
 have c1:Fn Tryz.prog 113 [⟨.int,200⟩,⟨.slice tVec,[(a1,a2),(b1,b2)]⟩] false [⟨.bool,allIn 200 [(a1,a2),(b1,b2)]⟩]:=areIn_fn 200 (by decide) _
 have c4:=isSmall_fn r 20 (by decide)
 have c6:=containsFunc_vs_fn 115 (fun x=>!smB x 200) ob (fun y _=>isValidSceneC_fn y)
 have c8:Fn Tryz.prog 113 [⟨.int,200⟩,⟨.slice tVec,tb⟩] false [⟨.bool,allIn 200 tb⟩]:=areIn_fn 200 (by decide) _
 unfold sceneB obsOK
 simp only
 cases h1:allIn 200 [(a1,a2),(b1,b2)]<;>rw [h1] at c1
 ·skip
  refine fe Tryz.func75 Tryz.ntmps75 Tryz.results75 fun hwf=>?_
  try simp (maxSteps:=9^9) only[go_sem]
  repeat refine AI ?_
  repeat refine AI ?_
  refine cw c1 ?_
  try simp (maxSteps:=9^9) only[go_sem]
  repeat refine AI ?_
  all_goals repeat refine AI ?_
  all_goals first|kernel_rfl|omega|rfl
 by_cases h2:a1 < b1
 rotate_left
 ·rw [decide_eq_false h2]
  have d2:=decide_eq_true (p:=a1 ≥ b1) (by omega)
  refine fe Tryz.func75 Tryz.ntmps75 Tryz.results75 fun hwf=>?_
  try simp (maxSteps:=9^9) only[go_sem]
  repeat refine AI ?_
  repeat refine AI ?_
  refine cw c1 ?_
  try simp (maxSteps:=9^9) only[go_sem]
  repeat refine AI ?_
  try simp (maxSteps:=9^9) only[go_sem,d2]
  repeat refine AI ?_
  all_goals repeat refine AI ?_
  all_goals first|kernel_rfl|omega|rfl
 rw [decide_eq_true h2]
 have d2:=decide_eq_false (p:=a1 ≥ b1) (by omega)
 by_cases h3:a2 < b2
 rotate_left
 ·rw [decide_eq_false h3]
  have d3:=decide_eq_true (p:=a2 ≥ b2) (by omega)
  refine fe Tryz.func75 Tryz.ntmps75 Tryz.results75 fun hwf=>?_
  try simp (maxSteps:=9^9) only[go_sem]
  repeat refine AI ?_
  repeat refine AI ?_
  refine cw c1 ?_
  try simp (maxSteps:=9^9) only[go_sem]
  repeat refine AI ?_
  try simp (maxSteps:=9^9) only[go_sem,d2]
  repeat refine AI ?_
  try simp (maxSteps:=9^9) only[go_sem,d3]
  repeat refine AI ?_
  all_goals repeat refine AI ?_
  all_goals first|kernel_rfl|omega|rfl
 rw [decide_eq_true h3]
 have d3:=decide_eq_false (p:=a2 ≥ b2) (by omega)
 cases h4:smB r 20<;>rw [h4] at c4
 ·skip
  refine fe Tryz.func75 Tryz.ntmps75 Tryz.results75 fun hwf=>?_
  try simp (maxSteps:=9^9) only[go_sem]
  repeat refine AI ?_
  repeat refine AI ?_
  refine cw c1 ?_
  try simp (maxSteps:=9^9) only[go_sem]
  repeat refine AI ?_
  try simp (maxSteps:=9^9) only[go_sem,d2]
  repeat refine AI ?_
  try simp (maxSteps:=9^9) only[go_sem,d3]
  repeat refine AI ?_
  repeat refine AI ?_
  refine cw c4 ?_
  try simp (maxSteps:=9^9) only[go_sem]
  repeat refine AI ?_
  all_goals repeat refine AI ?_
  all_goals first|kernel_rfl|omega|rfl
 by_cases h5:(ob.length:Int)<=4
 rotate_left
 ·rw [decide_eq_false h5]
  have d5:=decide_eq_true (p:=(ob.length:Int) > 4) (by omega)
  refine fe Tryz.func75 Tryz.ntmps75 Tryz.results75 fun hwf=>?_
  try simp (maxSteps:=9^9) only[go_sem]
  repeat refine AI ?_
  repeat refine AI ?_
  refine cw c1 ?_
  try simp (maxSteps:=9^9) only[go_sem]
  repeat refine AI ?_
  try simp (maxSteps:=9^9) only[go_sem,d2]
  repeat refine AI ?_
  try simp (maxSteps:=9^9) only[go_sem,d3]
  repeat refine AI ?_
  repeat refine AI ?_
  refine cw c4 ?_
  try simp (maxSteps:=9^9) only[go_sem]
  repeat refine AI ?_
  try simp (maxSteps:=9^9) only[go_sem,d5]
  repeat refine AI ?_
  all_goals repeat refine AI ?_
  all_goals first|kernel_rfl|omega|rfl
 rw [decide_eq_true h5]
 have d5:=decide_eq_false (p:=(ob.length:Int) > 4) (by omega)
 cases h6:ob.any fun x=>!smB x 200<;>rw [h6] at c6
 rotate_left
 ·skip
  refine fe Tryz.func75 Tryz.ntmps75 Tryz.results75 fun hwf=>?_
  try simp (maxSteps:=9^9) only[go_sem]
  repeat refine AI ?_
  repeat refine AI ?_
  refine cw c1 ?_
  try simp (maxSteps:=9^9) only[go_sem]
  repeat refine AI ?_
  try simp (maxSteps:=9^9) only[go_sem,d2]
  repeat refine AI ?_
  try simp (maxSteps:=9^9) only[go_sem,d3]
  repeat refine AI ?_
  repeat refine AI ?_
  refine cw c4 ?_
  try simp (maxSteps:=9^9) only[go_sem]
  repeat refine AI ?_
  try simp (maxSteps:=9^9) only[go_sem,d5]
  repeat refine AI ?_
  repeat refine AI ?_
  refine cw c6 ?_
  try simp (maxSteps:=9^9) only[go_sem]
  repeat refine AI ?_
  all_goals repeat refine AI ?_
  all_goals first|kernel_rfl|omega|rfl
 by_cases h7:(tb.length:Int)<=3
 rotate_left
 ·rw [decide_eq_false h7]
  have d7:=decide_eq_false (p:=(tb.length:Int)<=3) (by omega)
  refine fe Tryz.func75 Tryz.ntmps75 Tryz.results75 fun hwf=>?_
  try simp (maxSteps:=9^9) only[go_sem]
  repeat refine AI ?_
  repeat refine AI ?_
  refine cw c1 ?_
  try simp (maxSteps:=9^9) only[go_sem]
  repeat refine AI ?_
  try simp (maxSteps:=9^9) only[go_sem,d2]
  repeat refine AI ?_
  try simp (maxSteps:=9^9) only[go_sem,d3]
  repeat refine AI ?_
  repeat refine AI ?_
  refine cw c4 ?_
  try simp (maxSteps:=9^9) only[go_sem]
  repeat refine AI ?_
  try simp (maxSteps:=9^9) only[go_sem,d5]
  repeat refine AI ?_
  repeat refine AI ?_
  refine cw c6 ?_
  try simp (maxSteps:=9^9) only[go_sem]
  repeat refine AI ?_
  try simp (maxSteps:=9^9) only[go_sem,d7]
  repeat refine AI ?_
  all_goals repeat refine AI ?_
  all_goals first|kernel_rfl|omega|rfl
 rw [decide_eq_true h7]
 have d7:=decide_eq_true (p:=(tb.length:Int)<=3) (by omega)
 cases h8:allIn 200 tb<;>rw [h8] at c8
 ·skip
  refine fe Tryz.func75 Tryz.ntmps75 Tryz.results75 fun hwf=>?_
  try simp (maxSteps:=9^9) only[go_sem]
  repeat refine AI ?_
  repeat refine AI ?_
  refine cw c1 ?_
  try simp (maxSteps:=9^9) only[go_sem]
  repeat refine AI ?_
  try simp (maxSteps:=9^9) only[go_sem,d2]
  repeat refine AI ?_
  try simp (maxSteps:=9^9) only[go_sem,d3]
  repeat refine AI ?_
  repeat refine AI ?_
  refine cw c4 ?_
  try simp (maxSteps:=9^9) only[go_sem]
  repeat refine AI ?_
  try simp (maxSteps:=9^9) only[go_sem,d5]
  repeat refine AI ?_
  repeat refine AI ?_
  refine cw c6 ?_
  try simp (maxSteps:=9^9) only[go_sem]
  repeat refine AI ?_
  try simp (maxSteps:=9^9) only[go_sem,d7]
  repeat refine AI ?_
  repeat refine AI ?_
  refine cw c8 ?_
  try simp (maxSteps:=9^9) only[go_sem]
  repeat refine AI ?_
  all_goals repeat refine AI ?_
  all_goals first|kernel_rfl|omega|rfl
 refine fe Tryz.func75 Tryz.ntmps75 Tryz.results75 fun hwf=>?_
 try simp (maxSteps:=9^9) only[go_sem]
 repeat refine AI ?_
 repeat refine AI ?_
 refine cw c1 ?_
 try simp (maxSteps:=9^9) only[go_sem]
 repeat refine AI ?_
 try simp (maxSteps:=9^9) only[go_sem,d2]
 repeat refine AI ?_
 try simp (maxSteps:=9^9) only[go_sem,d3]
 repeat refine AI ?_
 repeat refine AI ?_
 refine cw c4 ?_
 try simp (maxSteps:=9^9) only[go_sem]
 repeat refine AI ?_
 try simp (maxSteps:=9^9) only[go_sem,d5]
 repeat refine AI ?_
 repeat refine AI ?_
 refine cw c6 ?_
 try simp (maxSteps:=9^9) only[go_sem]
 repeat refine AI ?_
 try simp (maxSteps:=9^9) only[go_sem,d7]
 repeat refine AI ?_
 repeat refine AI ?_
 refine cw c8 ?_
 try simp (maxSteps:=9^9) only[go_sem]
 repeat refine AI ?_
 all_goals repeat refine AI ?_
 all_goals first|kernel_rfl|omega|rfl
theorem IsValidSceneI_fn (s:DSc):Fn Tryz.prog 75 [⟨tScene,s⟩] false [⟨.bool,sceneB s⟩]:=IsValidSceneI_fn' s.1.1 s.1.2 s.2.1.1 s.2.1.2 s.2.2.1 s.2.2.2.1 s.2.2.2.2
end Go.Proofs.YtbopoblkoainjaaGreat.DW
