/-
  Texts of a proof, one behind another: Dw7, Dw8, Z, Dw9, Dw10, Dw11, Dw12, Dw13, Dw16, Dw18, Dw21, Dw112, Dw113, Dw114, LawFormatMotion, TabL.
-/
import Derived.Test.YtaeckjmkjhffnaaGreatDoorRows
import Derived.Lib.LaidTab
import Derived.LaidMore
import Derived.MakeChecks
import Derived.Test.YtaeckjmkjhffnaaGreatDoorKM3
set_option linter.all false
set_option maxRecDepth 100000
namespace Go.Proofs.YtaeckjmkjhffnaaGreatDoor.DW
open Go.RowKit
theorem ni_set_self {l:List Int} {i:Nat} {d:Int} (h:i < l.length):ni (l.set i d) i=d:=by
 rw [ni_lt (by simpa using h)]; simp
theorem trim_shift (d r:Nat) (h:d < 1000000000):trimL ((d:Int) :: natL r)=natL (r * 1000000000+d):=by
 show trimL ([(d:Int)]++natL r)=_
 rw [trimL_val (lims_app (lims_one (by omega) (by omega)) (lims_natL r)),val_app,val_one,val_natL,Int.toNat_natCast]
 congr 1
 show d+pw 1 * r=_
 rw [pw_one]; omega
theorem trimmed_shift (d r:Nat) (h:d < 1000000000):Fn Tryz.prog 149 [⟨tInts,(d:Int) :: natL r⟩] false [⟨tInts,natL (r * 1000000000+d)⟩]:=by
 have:=trimmed_fn ((d:Int) :: natL r)
 rw [trim_shift d r h] at this
 exact this
theorem l02Trim_shift (d r:Nat) (h:d < 1000000000):Fn Tryz.prog 142 [⟨tInts,(d:Int) :: natL r⟩] false [⟨tInts,natL (r * 1000000000+d)⟩]:=by
 have:=l02Trim_fn ((d:Int) :: natL r)
 rw [trim_shift d r h] at this
 exact this
theorem nl_shift {r b d:Nat} (hr:r < b) (hd:d < 1000000000):r * 1000000000+d < b * 1000000000/\nl (r * 1000000000+d)<=nl b+1:=by
 refine ⟨by omega,?_⟩
 rw [nl_iff,pw_succ]
 have:=lt_nl b
 omega
theorem dg_one {b:Nat} (h:nl b=1):dg b 0=b:=by
 rw [dg_zero]; exact Nat.mod_eq_of_lt (nl_iff.1 (by omega:nl b<=1))
theorem natDiv_fn (a b:Nat) (hb0:0 < b) (ha:nl a<=40000) (hb:nl b<=40000):Fn Tryz.prog 164 [⟨tInts,natL a⟩,⟨tInts,natL b⟩] false [⟨tInts,natL (a / b)⟩,⟨tInts,natL (a % b)⟩]:=by
 have hbn:nl b ≠ 0:=fun h=>by rw [nl_eq_zero.1 h] at hb0; omega
 refine fe Tryz.func164 Tryz.ntmps164 Tryz.results164 fun hwf=>?_
 try simp (maxSteps:=9^9) only[go_sem]
 repeat refine AI ?_
 refine cw (natCmp_fn (natL a) (natL b)) ?_
 try simp (maxSteps:=9^9) only[go_sem]
 refine CondW_dec (fun hA=>?_) (fun hA=>?_)
 ·rw [cmpN_lt] at hA
  try simp (maxSteps:=9^9) only[go_sem]
  rw [Nat.div_eq_of_lt hA,Nat.mod_eq_of_lt hA,natL_zero]
  exact ⟨rfl,rfl⟩
 ·rw [cmpN_lt] at hA
  try simp (maxSteps:=9^9) only[go_sem]
  refine CondW_dec (fun hB=>?_) (fun hB=>?_)
  ·have h1:nl b=1:=by omega
   have hb9:b < 1000000000:=nl_iff.1 (by omega:nl b<=1)
   try simp (maxSteps:=9^9) only[go_sem,hB]
   rw [dg_one h1]
   repeat refine AI ?_
   repeat refine AI ?_
   refine cw (natDivSmall_fn a b hb0 hb9 (by omega)) ?_
   try simp (maxSteps:=9^9) only[go_sem]
   repeat refine AI ?_
   refine cw (implNatOf_fn ((a % b:Nat):Int)) ?_
   try simp (maxSteps:=9^9) only[go_sem]
  ·have hb2:2<=nl b:=by omega
   try simp (maxSteps:=9^9) only[go_sem,hB]
   repeat refine AI ?_
   refine LoopG.intro _ _ _ (fun x:Nat × List Int=>⟨[(0,.sl .int (natL a)),(1,.sl .int (natL b)),(8,.row 0 0),(9,.sl .int (natL (a / pw x.1 % b))),(10,.sc (.int .i64 ((x.1:Int) - 1)))],[(0,.row 3 .int 0 true x.2)]⟩) (fun x=>x.1<=nl a/\lims x.2/\x.2.length=nl a/\val x.2=pw x.1 * (a / pw x.1 / b)) (fun x=>x.1) (nl a,List.replicate (nl a) 0) ?_ ⟨by simp,lims_rep _,by simp,by simp [val_rep,Nat.div_eq_of_lt (lt_nl a)]⟩ ?_
   ·refine Wk.mk [] ?_
    try simp (maxSteps:=9^9) only[go_sem]
    try (and_intros<;>first|rfl|omega|exact ⟨_,rfl⟩)
    all_goals (simp [Nat.div_eq_of_lt (lt_nl a),natL_zero])
   ·rintro ⟨t,out⟩ ⟨h1,h2,h3,h4⟩
    simp only at h1 h2 h3 h4
    try simp (maxSteps:=9^9) only[go_sem]
    refine CondW_dec (fun hC=>?_) (fun hC=>?_)
    ·obtain ⟨i,rfl⟩:∃ i,t=i+1:=⟨t - 1,by omega⟩
     have hd1:=dg_lt a i
     have hml:=Nat.mod_lt (a / pw (i+1)) hb0
     obtain ⟨s1,s2,s3⟩:=small_step (a:=a) (i:=i) hb0
     obtain ⟨s4,s5⟩:=small_set h2 (show i < out.length by omega) s3 h4
     have ei:((i+1:Nat):Int) - 1=i:=by omega
     obtain ⟨hr9,hrl⟩:=nl_shift hml hd1
     have hml2:nl (a / pw (i+1) % b)<=nl b:=nl_mono (Nat.le_of_lt hml)
     try simp (maxSteps:=9^9) only[go_sem,ei]
     repeat refine AI ?_
     try simp (maxSteps:=9^9) only[go_sem]
     repeat refine AI ?_
     repeat refine AI ?_
     refine cw (trimmed_shift (dg a i) (a / pw (i+1) % b) hd1) ?_
     try simp (maxSteps:=9^9) only[go_sem]
     generalize hR:a / pw (i+1) % b * 1000000000+dg a i=R at *
     repeat refine AI ?_
     refine cw (natCmp_fn (natL R) (natL b)) ?_
     try simp (maxSteps:=9^9) only[go_sem]
     refine CondW_dec (fun hD=>?_) (fun hD=>?_)
     ·rw [cmpN_ge] at hD
      try simp (maxSteps:=9^9) only[go_sem]
      repeat refine AI ?_
      refine cw (digit_fn R b hb2 (by omega) (by omega) hr9) ?_
      try simp (maxSteps:=9^9) only[go_sem]
      repeat refine AI ?_
      rw [ni_set_self (by omega)]
      repeat refine AI ?_
      refine cw (implNatOf_fn ((R / b:Nat):Int)) ?_
      try simp (maxSteps:=9^9) only[go_sem]
      repeat refine AI ?_
      refine cw (natMul_fn b (R / b) (by omega) (Nat.le_trans (nl_small s3) (by omega))) ?_
      try simp (maxSteps:=9^9) only[go_sem]
      repeat refine AI ?_
      refine cw (natSub_fn R (b * (R / b)) (Nat.mul_div_le R b) (by omega)) ?_
      try simp (maxSteps:=9^9) only[go_sem]
      repeat refine AI ?_
      refine LoopK.mk (i,out.set i ((R / b:Nat):Int)) ?_ ⟨by simp only; omega,s4,by simp [h3],by simp only; rw [s5,s2]⟩ (by simp only; omega)
      refine Wk.mk [] ?_
      try simp (maxSteps:=9^9) only[go_sem]
      try (and_intros<;>first|rfl|omega|exact ⟨_,rfl⟩)
      all_goals (have e:R - b * (R / b)=R % b:=(by have:=Nat.mod_add_div R b; omega); rw [e,s1])
     ·rw [cmpN_ge] at hD
      try simp (maxSteps:=9^9) only[go_sem]
      repeat refine AI ?_
      have hq0:R / b=0:=Nat.div_eq_of_lt (by omega)
      rw [hq0] at s2 s5
      refine LoopK.mk (i,out) ?_ ⟨by simp only; omega,h2,by simp [h3],by simp only; rw [h4,s2,pw_succ]; simp only [Nat.add_zero]; ac_rfl⟩ (by simp only; omega)
      refine Wk.mk [] ?_
      try simp (maxSteps:=9^9) only[go_sem]
      try (and_intros<;>first|rfl|omega|exact ⟨_,rfl⟩)
      all_goals (rw [<-s1,Nat.mod_eq_of_lt (by omega)])
    ·have ht:t=0:=by omega
     subst ht
     try simp (maxSteps:=9^9) only[go_sem,hC]
     repeat refine AI ?_
     refine cw (trimmed_fn out) ?_
     try simp (maxSteps:=9^9) only[go_sem]
     rw [trimL_val h2,h4,pw_zero,Nat.div_one,Nat.one_mul]
     exact ⟨rfl,rfl⟩
theorem l02Div_fn (a b:Nat) (hb0:0 < b) (ha:nl a<=40000) (hb:nl b<=40000):Fn Tryz.prog 133 [⟨tInts,natL a⟩,⟨tInts,natL b⟩] false [⟨tInts,natL (a / b)⟩,⟨tInts,natL (a % b)⟩]:=by
 have hbn:nl b ≠ 0:=fun h=>by rw [nl_eq_zero.1 h] at hb0; omega
 refine fe Tryz.func133 Tryz.ntmps133 Tryz.results133 fun hwf=>?_
 try simp (maxSteps:=9^9) only[go_sem]
 refine CondW_dec (fun hB=>?_) (fun hB=>?_)
 ·have h1:nl b=1:=by omega
  have hb9:b < 1000000000:=nl_iff.1 (by omega:nl b<=1)
  try simp (maxSteps:=9^9) only[go_sem,hB]
  rw [dg_one h1]
  repeat refine AI ?_
  repeat refine AI ?_
  refine cw (l02Small_fn a b hb0 hb9 (by omega)) ?_
  try simp (maxSteps:=9^9) only[go_sem]
  repeat refine AI ?_
  refine cw (specNatOf_fn ((a % b:Nat):Int)) ?_
  try simp (maxSteps:=9^9) only[go_sem]
 ·have hb2:2<=nl b:=by omega
  try simp (maxSteps:=9^9) only[go_sem,hB]
  repeat refine AI ?_
  refine LoopG.intro _ _ _ (fun x:Nat × List Int=>⟨[(0,.sl .int (natL a)),(1,.sl .int (natL b)),(8,.row 0 0),(9,.sl .int (natL (a / pw x.1 % b))),(10,.sc (.int .i64 ((x.1:Int) - 1)))],[(0,.row 3 .int 0 true x.2)]⟩) (fun x=>x.1<=nl a/\lims x.2/\x.2.length=nl a/\val x.2=pw x.1 * (a / pw x.1 / b)) (fun x=>x.1) (nl a,List.replicate (nl a) 0) ?_ ⟨by simp,lims_rep _,by simp,by simp [val_rep,Nat.div_eq_of_lt (lt_nl a)]⟩ ?_
  ·refine Wk.mk [] ?_
   try simp (maxSteps:=9^9) only[go_sem]
   try (and_intros<;>first|rfl|omega|exact ⟨_,rfl⟩)
   all_goals (simp [Nat.div_eq_of_lt (lt_nl a),natL_zero])
  ·rintro ⟨t,out⟩ ⟨h1,h2,h3,h4⟩
   simp only at h1 h2 h3 h4
   try simp (maxSteps:=9^9) only[go_sem]
   refine CondW_dec (fun hC=>?_) (fun hC=>?_)
   ·obtain ⟨i,rfl⟩:∃ i,t=i+1:=⟨t - 1,by omega⟩
    have hd1:=dg_lt a i
    have hml:=Nat.mod_lt (a / pw (i+1)) hb0
    obtain ⟨s1,s2,s3⟩:=small_step (a:=a) (i:=i) hb0
    obtain ⟨s4,s5⟩:=small_set h2 (show i < out.length by omega) s3 h4
    have ei:((i+1:Nat):Int) - 1=i:=by omega
    obtain ⟨hr9,hrl⟩:=nl_shift hml hd1
    have hml2:nl (a / pw (i+1) % b)<=nl b:=nl_mono (Nat.le_of_lt hml)
    try simp (maxSteps:=9^9) only[go_sem,ei]
    repeat refine AI ?_
    try simp (maxSteps:=9^9) only[go_sem]
    repeat refine AI ?_
    repeat refine AI ?_
    refine cw (l02Trim_shift (dg a i) (a / pw (i+1) % b) hd1) ?_
    try simp (maxSteps:=9^9) only[go_sem]
    generalize hR:a / pw (i+1) % b * 1000000000+dg a i=R at *
    repeat refine AI ?_
    refine cw (l02Cmp_fn (natL R) (natL b)) ?_
    try simp (maxSteps:=9^9) only[go_sem]
    refine CondW_dec (fun hD=>?_) (fun hD=>?_)
    ·rw [cmpN_lt] at hD
     try simp (maxSteps:=9^9) only[go_sem]
     repeat refine AI ?_
     have hq0:R / b=0:=Nat.div_eq_of_lt (by omega)
     rw [hq0] at s2 s5
     refine LoopK.mk (i,out) ?_ ⟨by simp only; omega,h2,by simp [h3],by simp only; rw [h4,s2,pw_succ]; simp only [Nat.add_zero]; ac_rfl⟩ (by simp only; omega)
     refine Wk.mk [] ?_
     try simp (maxSteps:=9^9) only[go_sem]
     try (and_intros<;>first|rfl|omega|exact ⟨_,rfl⟩)
     all_goals (rw [<-s1,Nat.mod_eq_of_lt (by omega)])
    ·rw [cmpN_lt] at hD
     try simp (maxSteps:=9^9) only[go_sem]
     repeat refine AI ?_
     refine cw (l02Digit_fn R b hb0 (by omega) (by omega) hr9) ?_
     try simp (maxSteps:=9^9) only[go_sem]
     repeat refine AI ?_
     repeat refine AI ?_
     refine cw (specNatOf_fn ((R / b:Nat):Int)) ?_
     try simp (maxSteps:=9^9) only[go_sem]
     repeat refine AI ?_
     refine cw (l02Mul_fn b (R / b) (by omega) (Nat.le_trans (nl_small s3) (by omega))) ?_
     try simp (maxSteps:=9^9) only[go_sem]
     repeat refine AI ?_
     refine cw (l02Sub_fn R (b * (R / b)) (Nat.mul_div_le R b) (by omega)) ?_
     try simp (maxSteps:=9^9) only[go_sem]
     repeat refine AI ?_
     refine LoopK.mk (i,out.set i ((R / b:Nat):Int)) ?_ ⟨by simp only; omega,s4,by simp [h3],by simp only; rw [s5,s2]⟩ (by simp only; omega)
     refine Wk.mk [] ?_
     try simp (maxSteps:=9^9) only[go_sem]
     try (and_intros<;>first|rfl|omega|exact ⟨_,rfl⟩)
     all_goals (have e:R - b * (R / b)=R % b:=(by have:=Nat.mod_add_div R b; omega); rw [e,s1])
   ·have ht:t=0:=by omega
    subst ht
    try simp (maxSteps:=9^9) only[go_sem,hC]
    repeat refine AI ?_
    refine cw (l02Trim_fn out) ?_
    try simp (maxSteps:=9^9) only[go_sem]
    rw [trimL_val h2,h4,pw_zero,Nat.div_one,Nat.one_mul]
    exact ⟨rfl,rfl⟩
theorem okN_natL {n:Nat} (h:nl n<=60):okN (natL n)=true:=bdec_t (okNP_natL.2 h)
theorem natL_one {n:Nat} (h:0 < n) (h2:n < 1000000000):natL n=[(n:Int)]:=by
 rw [natL_pos h,Nat.mod_eq_of_lt h2,Nat.div_eq_of_lt h2,natL_zero]
theorem natL_maxInt:natL 9223372036854775807=[854775807,223372036,9]:=by
 rw [natL_pos (by decide),natL_pos (by decide),natL_pos (by decide),natL_zero]; rfl
theorem div_le_i64 {a:Nat} (h:a<=9223372036854775807) (t:Nat):a / pw t<=9223372036854775807:=Nat.le_trans (Nat.div_le_self a _) h
theorem specNatToInt_fn (a:Nat) (ha:nl a<=60):Fn Tryz.prog 131 [⟨tInts,natL a⟩] false [⟨.int,if a<=9223372036854775807 then (a:Int) else 0⟩,⟨.bool,decide (a<=9223372036854775807)⟩]:=by
 refine fe Tryz.func131 Tryz.ntmps131 Tryz.results131 fun hwf=>?_
 try simp (maxSteps:=9^9) only[go_sem]
 repeat refine AI ?_
 refine cw (specNatOk_fn (natL a)) ?_
 try simp (maxSteps:=9^9) only[go_sem]
 have hok:=okN_natL ha
 try simp (maxSteps:=9^9) only[go_sem,hok,Bool.not_true]
 have hcmp:=l02Cmp_fn (natL a) [854775807,223372036,9]
 rw [<-natL_maxInt,cmpL_nat,natL_maxInt] at hcmp
 repeat refine AI ?_
 refine cw hcmp ?_
 try simp (maxSteps:=9^9) only[go_sem]
 by_cases hA:a<=9223372036854775807
 ·have hB:¬ 0 < cmpN a 9223372036854775807:=by unfold cmpN; split<;>(try split)<;>omega
  try simp (maxSteps:=9^9) only[go_sem,hB,hA]
  repeat refine AI ?_
  refine LoopG.intro _ _ _ (fun t:Nat=>⟨[(0,.sl .int (natL a)),(4,.sc (.int .i64 (a / pw t:Nat))),(5,.sc (.int .i64 ((t:Int) - 1)))],[]⟩) (fun t=>t<=nl a) (fun t=>t) (nl a) ?_ (Nat.le_refl _) ?_
  ·refine Wk.mk [] ?_
   try simp (maxSteps:=9^9) only[go_sem]
   try (and_intros<;>first|rfl|omega|exact ⟨_,rfl⟩)
   all_goals (simp [Nat.div_eq_of_lt (lt_nl a)])
  ·rintro t h1
   try simp (maxSteps:=9^9) only[go_sem]
   refine CondW_dec (fun hC=>?_) (fun hC=>?_)
   ·obtain ⟨i,rfl⟩:∃ i,t=i+1:=⟨t - 1,by omega⟩
    have hd1:=dg_lt a i
    have hi:=div_pw_succ a i
    have hle:=div_le_i64 hA i
    have ei:((i+1:Nat):Int) - 1=i:=by omega
    generalize a / pw (i+1)=q at *
    try simp (maxSteps:=9^9) only[go_sem,ei]
    repeat refine AI ?_
    refine LoopK.mk i ?_ (by omega) (by omega)
    exact WK
   ·have ht:t=0:=by omega
    subst ht
    try simp (maxSteps:=9^9) only[go_sem,hC,hA]
    rw [pw_zero,Nat.div_one]
 ·have hB:0 < cmpN a 9223372036854775807:=by unfold cmpN; split<;>(try split)<;>omega
  try simp (maxSteps:=9^9) only[go_sem,hB,hA]
theorem gcd_step {x y a b:Nat} (h:Nat.gcd x y=Nat.gcd a b):Nat.gcd y (x % y)=Nat.gcd a b:=by
 rw [<-h,Nat.gcd_comm x y,Nat.gcd_rec y x,Nat.gcd_comm]
theorem l02Plain_fn (a b:Nat) (ha:a<=9223372036854775807) (hb:b<=9223372036854775807):Fn Tryz.prog 132 [⟨.int,(a:Int)⟩,⟨.int,(b:Int)⟩] false [⟨tInts,natL (Nat.gcd a b)⟩]:=by
 refine fe Tryz.func132 Tryz.ntmps132 Tryz.results132 fun hwf=>?_
 try simp (maxSteps:=9^9) only[go_sem]
 refine LoopG.intro _ _ _ (fun x:Nat × Nat=>⟨[(0,.sc (.int .i64 x.1)),(1,.sc (.int .i64 x.2))],[]⟩) (fun x=>Nat.gcd x.1 x.2=Nat.gcd a b/\x.1<=9223372036854775807/\x.2<=9223372036854775807) (fun x=>x.2) (a,b) ?_ ⟨rfl,ha,hb⟩ ?_
 ·exact WK
 ·rintro ⟨x,y⟩ ⟨h1,h2,h3⟩
  simp only at h1 h2 h3
  try simp (maxSteps:=9^9) only[go_sem]
  refine CondW_dec (fun hA=>?_) (fun hA=>?_)
  ·have hy:0 < y:=by omega
   have hml:=Nat.mod_lt x hy
   try simp (maxSteps:=9^9) only[go_sem]
   refine RemW.pos (by omega) (by omega) ?_
   try simp (maxSteps:=9^9) only[go_sem]
   refine LoopK.mk (y,x % y) ?_ ⟨gcd_step h1,h3,by simp only; omega⟩ (by simp only; omega)
   exact WK
  ·have hy:y=0:=by omega
   subst hy
   try simp (maxSteps:=9^9) only[go_sem]
   repeat refine AI ?_
   refine cw (specNatOf_fn (x:Int)) ?_
   try simp (maxSteps:=9^9) only[go_sem]
   rw [Nat.gcd_zero_right] at h1
   rw [h1]
theorem l02Gcd_fn (a b:Nat) (ha:nl a<=60) (hb:nl b<=60):Fn Tryz.prog 105 [⟨tInts,natL a⟩,⟨tInts,natL b⟩] false [⟨tInts,natL (Nat.gcd a b)⟩]:=by
 refine fe Tryz.func105 Tryz.ntmps105 Tryz.results105 fun hwf=>?_
 try simp (maxSteps:=9^9) only[go_sem]
 repeat refine AI ?_
 try simp (maxSteps:=9^9) only[go_sem]
 repeat refine AI ?_
 refine LoopG.intro _ _ _ (fun x:Nat × Nat=>⟨[(5,.sl .int (natL x.1)),(6,.sl .int (natL x.2))],[]⟩) (fun x=>Nat.gcd x.1 x.2=Nat.gcd a b/\nl x.1<=60/\nl x.2<=60) (fun x=>x.2) (a,b) ?_ ⟨rfl,ha,hb⟩ ?_
 ·exact WK
 ·rintro ⟨x,y⟩ ⟨h1,h2,h3⟩
  simp only at h1 h2 h3
  by_cases hy:y=0
  ·subst hy
   have hA:¬ (0:Int) < (nl 0:Nat):=by rw [nl_zero]; omega
   rw [Nat.gcd_zero_right] at h1
   try simp (maxSteps:=9^9) only[go_sem,hA]
   rw [h1]
  ·have hA:(0:Int) < (nl y:Nat):=by have:=(nl_le y hy).1; omega
   by_cases hs:(nl x:Int) < 3/\(nl y:Int) < 3
   ·obtain ⟨hB,hC⟩:=hs
    have hx9:x<=9223372036854775807:=by have:=(nl_iff (k:=2)).1 (show nl x<=2 by omega); have e:pw 2=1000000000000000000:=rfl; omega
    have hy9:y<=9223372036854775807:=by have:=(nl_iff (k:=2)).1 (show nl y<=2 by omega); have e:pw 2=1000000000000000000:=rfl; omega
    try simp (maxSteps:=9^9) only[go_sem,hA,hB,hC]
    repeat refine AI ?_
    refine cw (specNatToInt_fn x h2) ?_
    try simp (maxSteps:=9^9) only[go_sem]
    repeat refine AI ?_
    refine cw (specNatToInt_fn y h3) ?_
    try simp (maxSteps:=9^9) only[go_sem]
    try simp (maxSteps:=9^9) only[go_sem,hx9,hy9]
    repeat refine AI ?_
    refine cw (l02Plain_fn x y hx9 hy9) ?_
    try simp (maxSteps:=9^9) only[go_sem]
    rw [h1]
   ·have hp:¬ (nl x:Int) < 3\/((nl x:Int) < 3/\¬ (nl y:Int) < 3):=by omega
    have hml:=Nat.mod_lt x (Nat.pos_of_ne_zero hy)
    have hm2:=nl_mono (Nat.le_of_lt hml)
    rcases hp with hB|⟨hB,hC⟩
    ·try simp (maxSteps:=9^9) only[go_sem,hA,hB]
     repeat refine AI ?_
     refine cw (l02Div_fn x y (Nat.pos_of_ne_zero hy) (by omega) (by omega)) ?_
     try simp (maxSteps:=9^9) only[go_sem]
     refine LoopK.mk (y,x % y) ?_ ⟨gcd_step h1,h3,by simp only; omega⟩ (by simp only; omega)
     exact WK
    ·try simp (maxSteps:=9^9) only[go_sem,hA,hB,hC]
     repeat refine AI ?_
     refine cw (l02Div_fn x y (Nat.pos_of_ne_zero hy) (by omega) (by omega)) ?_
     try simp (maxSteps:=9^9) only[go_sem]
     refine LoopK.mk (y,x % y) ?_ ⟨gcd_step h1,h3,by simp only; omega⟩ (by simp only; omega)
     exact WK
theorem natGcd_fn (a b:Nat) (ha:nl a<=30000) (hb:nl b<=30000):Fn Tryz.prog 138 [⟨tInts,natL a⟩,⟨tInts,natL b⟩] false [⟨tInts,natL (Nat.gcd a b)⟩]:=by
 refine fe Tryz.func138 Tryz.ntmps138 Tryz.results138 fun hwf=>?_
 try simp (maxSteps:=9^9) only[go_sem]
 refine LoopG.intro _ _ _ (fun x:Nat × Nat=>⟨[(0,.sl .int (natL x.1)),(1,.sl .int (natL x.2))],[]⟩) (fun x=>Nat.gcd x.1 x.2=Nat.gcd a b/\nl x.1<=30000/\nl x.2<=30000) (fun x=>x.2) (a,b) ?_ ⟨rfl,ha,hb⟩ ?_
 ·exact WK
 ·rintro ⟨x,y⟩ ⟨h1,h2,h3⟩
  simp only at h1 h2 h3
  by_cases hA:(1:Int) < (nl y:Nat)
  ·have hy:0 < y:=Nat.pos_of_ne_zero fun h=>by rw [h,nl_zero] at hA; omega
   have hml:=Nat.mod_lt x hy
   have hm2:=nl_mono (Nat.le_of_lt hml)
   try simp (maxSteps:=9^9) only[go_sem,hA]
   repeat refine AI ?_
   refine cw (natDiv_fn x y hy (by omega) (by omega)) ?_
   try simp (maxSteps:=9^9) only[go_sem]
   refine LoopK.mk (y,x % y) ?_ ⟨gcd_step h1,h3,by simp only; omega⟩ (by simp only; omega)
   exact WK
  ·by_cases hy:y=0
   ·subst hy
    have hB:(nl 0:Int)=0:=by rw [nl_zero]; rfl
    rw [Nat.gcd_zero_right] at h1
    try simp (maxSteps:=9^9) only[go_sem,hA,hB]
    rw [h1]
   ·have hB:¬ (nl y:Int)=0:=by have:=(nl_le y hy).1; omega
    have h4:nl y=1:=by omega
    have hy9:y < 1000000000:=nl_iff.1 (by omega:nl y<=1)
    have hml:=Nat.mod_lt x (Nat.pos_of_ne_zero hy)
    try simp (maxSteps:=9^9) only[go_sem,hA,hB]
    repeat refine AI ?_
    have hsm:=natDivSmall_fn x y (Nat.pos_of_ne_zero hy) hy9 (by omega)
    rw [<-dg_one h4] at hsm
    repeat refine AI ?_
    refine cw hsm ?_
    try simp (maxSteps:=9^9) only[go_sem]
    repeat refine AI ?_
    rw [dg_one h4]
    refine LoopG.intro _ _ _ (fun z:Nat × Nat=>⟨[(8,.sc (.int .i64 z.2)),(9,.sc (.int .i64 z.1))],[]⟩) (fun z=>Nat.gcd z.1 z.2=Nat.gcd a b/\0 < z.1/\z.1 < 1000000000/\z.2 < 1000000000) (fun z=>z.2) (y,x % y) ?_ ⟨gcd_step h1,Nat.pos_of_ne_zero hy,hy9,by simp only; omega⟩ ?_
    ·exact WK
    ·rintro ⟨u,v⟩ ⟨g1,g2,g3,g4⟩
     simp only at g1 g2 g3 g4
     try simp (maxSteps:=9^9) only[go_sem]
     refine CondW_dec (fun hC=>?_) (fun hC=>?_)
     ·have hv:0 < v:=by omega
      have hml2:=Nat.mod_lt u hv
      try simp (maxSteps:=9^9) only[go_sem]
      refine RemW.pos (by omega) (by omega) ?_
      try simp (maxSteps:=9^9) only[go_sem]
      repeat refine AI ?_
      refine LoopK.mk (v,u % v) ?_ ⟨gcd_step g1,hv,g4,by simp only; omega⟩ (by simp only; omega)
      exact WK
     ·have hv:v=0:=by omega
      subst hv
      rw [Nat.gcd_zero_right] at g1
      try simp (maxSteps:=9^9) only[go_sem]
      rw [<-g1,natL_one g2 g3]
abbrev DB:Type:=Bool × List Int
abbrev DR:Type:=DB × List Int
def bigD (z:Int):DB:=(decide (z < 0),natL z.natAbs)
def bZ:DB:=(false,[])
theorem bigD_inj {x y:Int} (h:bigD x=bigD y):x=y:=by
 simp only [bigD,Prod.mk.injEq,decide_eq_decide] at h
 have:=natL_inj h.2
 omega
theorem bigD_nat (n:Nat):bigD n=(false,natL n):=by
 rw [bigD,Int.natAbs_natCast,decide_eq_false (by omega)]
def sgn (s:Bool) (n:Nat):Int:=if s then -(n:Int) else n
theorem bigD_sgn (s:Bool) (n:Nat):bigD (sgn s n)=(s && decide (0 < n),natL n):=by
 cases s with
 | false=>simp only [sgn,Bool.false_eq_true,if_false,bigD_nat,Bool.false_and]
 | true =>
  simp only [sgn,if_true,bigD,Int.natAbs_neg,Int.natAbs_natCast,Bool.true_and]
  congr 1
  rw [decide_eq_decide]; omega
def okBP (x:DB):Prop:=okNP x.2/\¬ (x.1=true/\x.2.length=0)
noncomputable def okB (x:DB):Bool:=bdec (okBP x)
theorem okBP_bigD {z:Int}:okBP (bigD z) ↔ nl z.natAbs<=60:=by
 unfold okBP bigD
 simp only [okNP_natL,natL_len_nl,nl_eq_zero,decide_eq_true_eq]
 constructor
 ·exact fun h=>h.1
 ·exact fun h=>⟨h,by omega⟩
theorem okBP_iff {x:DB}:okBP x ↔ ∃ z:Int,x=bigD z/\nl z.natAbs<=60:=by
 constructor
 ·intro h
  obtain ⟨n,e,hn⟩:=okNP_iff.1 h.1
  refine ⟨sgn x.1 n,?_,?_⟩
  ·rw [bigD_sgn]
   obtain ⟨s,l⟩:=x
   simp only at e h ⊢
   subst e
   have h2:=h.2
   simp only [natL_len_nl,nl_eq_zero] at h2
   cases s with
   | false=>rfl
   | true =>
    have:0 < n:=by simp at h2; omega
    simp [this]
  ·have:(sgn x.1 n).natAbs=n:=by unfold sgn; split<;>omega
   rw [this]; exact hn
 ·rintro ⟨z,rfl,h⟩; exact okBP_bigD.2 h
def small (q:Rat):Prop:=nl q.num.natAbs<=24/\nl q.den<=24
def ratD (q:Rat):DR:=(bigD q.num,natL q.den)
def rZ:DR:=(bZ,[])
def oD:Option Rat->DR
 | none=>rZ
 | some q=>ratD q
theorem ratD_inj {p q:Rat} (h:ratD p=ratD q):p=q:=by
 simp only [ratD,Prod.mk.injEq] at h
 exact Rat.ext (bigD_inj h.1) (natL_inj h.2)
noncomputable def rdO (r:DR):Option Rat:=@dite _ (∃ q,small q/\r=ratD q) (Classical.propDecidable _) (fun h=>some (Classical.choose h)) (fun _=>none)
theorem rdO_ratD {q:Rat} (h:small q):rdO (ratD q)=some q:=by
 have he:∃ p,small p/\ratD q=ratD p:=⟨q,h,rfl⟩
 unfold rdO
 rw [dif_pos he]
 exact congrArg some (ratD_inj (Classical.choose_spec he).2.symm)
theorem rdO_some {r:DR} {q:Rat} (h:rdO r=some q):small q/\r=ratD q:=by
 unfold rdO at h
 split at h
 ·rename_i he
  injection h with h
  rw [<-h]; exact Classical.choose_spec he
 ·cases h
noncomputable def okR (r:DR):Bool:=(rdO r).isSome
theorem okR_ratD {q:Rat} (h:small q):okR (ratD q)=true:=by rw [okR,rdO_ratD h]; rfl
theorem okR_t {r:DR} (h:okR r=true):∃ q,small q/\r=ratD q/\rdO r=some q:=by
 unfold okR at h
 cases hr:rdO r with
 | none=>rw [hr] at h; cases h
 | some q=>exact ⟨q,(rdO_some hr).1,(rdO_some hr).2,rfl⟩
theorem okR_iff {r:DR}:okR r=true ↔ okBP r.1/\okNP r.2/\r.2 ≠ []/\r.1.2.length<=24/\r.2.length<=24/\Nat.gcd (val r.1.2) (val r.2)=1:=by
 constructor
 ·intro h
  obtain ⟨q,⟨h1,h2⟩,rfl,_⟩:=okR_t h
  simp only [ratD,bigD,natL_len_nl,val_natL]
  refine ⟨okBP_bigD.2 (by omega),okNP_natL.2 (by omega),fun h=>q.den_nz (natL_nil.1 h),h1,h2,q.reduced⟩
 ·rintro ⟨h1,h2,h3,h4,h5,h6⟩
  obtain ⟨z,hz,hzl⟩:=okBP_iff.1 h1
  obtain ⟨n,hn,hnl⟩:=okNP_iff.1 h2
  obtain ⟨x,l⟩:=r
  simp only at hz hn h3 h4 h5 h6
  subst hz hn
  simp only [bigD,natL_len_nl,val_natL] at h4 h5 h6
  have hn0:n ≠ 0:=fun h=>h3 (natL_nil.2 h)
  exact okR_ratD (q:=⟨z,n,hn0,h6⟩) ⟨h4,h5⟩
attribute [go_sem] bigD
theorem okB_eq (s:Bool) (l:List Int):okB (s,l)=(okN l && !(s && decide ((l.length:Int)=0))):=by
 by_cases h1:okNP l
 ·by_cases h2:l.length=0
  ·cases s
   ·rw [okB,bdec_t ⟨h1,fun h=>by cases h.1⟩,okN,bdec_t h1]; rfl
   ·rw [okB,bdec_f fun h=>h.2 ⟨rfl,h2⟩,h2]; simp
  ·rw [okB,bdec_t ⟨h1,fun h=>h2 h.2⟩,okN,bdec_t h1,decide_eq_false (by omega)]; simp
 ·rw [okB,bdec_f fun h=>h1 h.1,okN,bdec_f h1]; rfl
theorem implBigIntOk_fn (x:DB):Fn Tryz.prog 136 [⟨tBig,x⟩] false [⟨.bool,okB x⟩]:=by
 obtain ⟨s,l⟩:=x
 rw [okB_eq]
 cases hN:okN l<;>cases s
 all_goals
  refine fe Tryz.func136 Tryz.ntmps136 Tryz.results136 fun hwf=>?_
  try simp (maxSteps:=9^9) only[go_sem]
  repeat refine AI ?_
  refine cw (implNatOk_fn l) ?_
  try simp (maxSteps:=9^9) only[go_sem]
  try simp (maxSteps:=9^9) only[go_sem,hN]
theorem specBigIntOk_fn (x:DB):Fn Tryz.prog 102 [⟨tBig,x⟩] false [⟨.bool,okB x⟩]:=by
 obtain ⟨s,l⟩:=x
 rw [okB_eq]
 by_cases hl:(l.length:Int)=0
 ·have hl2:¬ 0 < (l.length:Int):=by omega
  cases hN:okN l<;>cases s
  all_goals
   refine fe Tryz.func102 Tryz.ntmps102 Tryz.results102 fun hwf=>?_
   try simp (maxSteps:=9^9) only[go_sem]
   repeat refine AI ?_
   refine cw (specNatOk_fn l) ?_
   try simp (maxSteps:=9^9) only[go_sem]
   try simp (maxSteps:=9^9) only[go_sem,hN,hl,hl2]
 ·have hl2:0 < (l.length:Int):=by omega
  cases hN:okN l<;>cases s
  all_goals
   refine fe Tryz.func102 Tryz.ntmps102 Tryz.results102 fun hwf=>?_
   try simp (maxSteps:=9^9) only[go_sem]
   repeat refine AI ?_
   refine cw (specNatOk_fn l) ?_
   try simp (maxSteps:=9^9) only[go_sem]
   try simp (maxSteps:=9^9) only[go_sem,hN,hl,hl2]
@[go_sem] theorem oD_s (q:Rat):oD (some q)=ratD q:=(rfl)
@[go_sem] theorem oD_n:oD none=rZ:=(rfl)
attribute [go_sem] ratD rZ bZ
theorem one_iff {n:Nat}:((nl n:Int)=1/\(dg n 0:Int)=1) ↔ n=1:=by
 constructor
 ·rintro ⟨h1,h2⟩
  have:=dg_one (b:=n) (by omega)
  omega
 ·rintro rfl
  have h:nl 1=1:=by rw [nl_pos (by decide),show 1 / 1000000000=0 from rfl,nl_zero]
  exact ⟨by omega,by have:=dg_one h; omega⟩
theorem isOne_fn (n:Nat):Fn Tryz.prog 112 [⟨tInts,natL n⟩] false [⟨.bool,decide (n=1)⟩]:=by
 by_cases h1:(nl n:Int)=1
 ·have hiff:=@one_iff n
  refine fe Tryz.func112 Tryz.ntmps112 Tryz.results112 fun hwf=>?_
  try simp (maxSteps:=9^9) only[go_sem,h1]
  repeat refine AI ?_
  rw [decide_eq_decide]; omega
 ·have hn:n ≠ 1:=fun h=>h1 (one_iff.2 h).1
  refine fe Tryz.func112 Tryz.ntmps112 Tryz.results112 fun hwf=>?_
  try simp (maxSteps:=9^9) only[go_sem,h1]
  simp [hn]
theorem l04One_fn (n:Nat):Fn Tryz.prog 104 [⟨tInts,natL n⟩] false [⟨.bool,decide (n=1)⟩]:=by
 by_cases h1:(nl n:Int)=1
 ·have hiff:=@one_iff n
  refine fe Tryz.func104 Tryz.ntmps104 Tryz.results104 fun hwf=>?_
  try simp (maxSteps:=9^9) only[go_sem,h1]
  repeat refine AI ?_
  rw [decide_eq_decide]; omega
 ·have hn:n ≠ 1:=fun h=>h1 (one_iff.2 h).1
  refine fe Tryz.func104 Tryz.ntmps104 Tryz.results104 fun hwf=>?_
  try simp (maxSteps:=9^9) only[go_sem,h1]
  simp [hn]
theorem bool_ext' {a b:Bool} (h:a=true ↔ b=true):a=b:=by cases a<;>cases b<;>simp_all
theorem okB_iff {x:DB}:okB x=true ↔ okBP x:=by
 constructor
 ·intro h; exact Classical.byContradiction fun hn=>by rw [okB,bdec_f hn] at h; cases h
 ·exact fun h=>bdec_t h
theorem okN_iff {l:List Int}:okN l=true ↔ okNP l:=by
 constructor
 ·intro h; exact Classical.byContradiction fun hn=>by rw [okN,bdec_f hn] at h; cases h
 ·exact fun h=>bdec_t h
theorem okR_eq (x:DB) (d:List Int):okR (x,d)=(okB x && okN d && !decide ((d.length:Int)=0) && !decide (24 < (x.2.length:Int)) && !decide (24 < (d.length:Int)) && decide (Nat.gcd (val x.2) (val d)=1)):=by
 apply bool_ext'
 rw [okR_iff]
 simp only [Bool.and_eq_true,okB_iff,okN_iff,Bool.not_eq_true',decide_eq_false_iff_not,decide_eq_true_eq,and_assoc]
 constructor
 ·rintro ⟨h1,h2,h3,h4,h5,h6⟩
  refine ⟨h1,h2,fun h=>h3 (List.eq_nil_of_length_eq_zero (by omega)),by omega,by omega,h6⟩
 ·rintro ⟨h1,h2,h3,h4,h5,h6⟩
  refine ⟨h1,h2,fun h=>h3 (by rw [h]; rfl),by omega,by omega,h6⟩
theorem implRatOk_fn (r:DR):Fn Tryz.prog 111 [⟨tRat,r⟩] false [⟨.bool,okR r⟩]:=by
 obtain ⟨x,d⟩:=r
 rw [okR_eq]
 cases h1:okB x
 ·refine fe Tryz.func111 Tryz.ntmps111 Tryz.results111 fun hwf=>?_
  try simp (maxSteps:=9^9) only[go_sem]
  repeat refine AI ?_
  refine cw (implBigIntOk_fn x) ?_
  try simp (maxSteps:=9^9) only[go_sem]
  try simp (maxSteps:=9^9) only[go_sem,h1]
 cases h2:okN d
 ·refine fe Tryz.func111 Tryz.ntmps111 Tryz.results111 fun hwf=>?_
  try simp (maxSteps:=9^9) only[go_sem]
  repeat refine AI ?_
  refine cw (implBigIntOk_fn x) ?_
  try simp (maxSteps:=9^9) only[go_sem]
  try simp (maxSteps:=9^9) only[go_sem,h1]
  repeat refine AI ?_
  refine cw (implNatOk_fn d) ?_
  try simp (maxSteps:=9^9) only[go_sem]
  try simp (maxSteps:=9^9) only[go_sem,h2]
 by_cases h3:(d.length:Int)=0
 ·refine fe Tryz.func111 Tryz.ntmps111 Tryz.results111 fun hwf=>?_
  try simp (maxSteps:=9^9) only[go_sem]
  repeat refine AI ?_
  refine cw (implBigIntOk_fn x) ?_
  try simp (maxSteps:=9^9) only[go_sem]
  try simp (maxSteps:=9^9) only[go_sem,h1]
  repeat refine AI ?_
  refine cw (implNatOk_fn d) ?_
  try simp (maxSteps:=9^9) only[go_sem]
  try simp (maxSteps:=9^9) only[go_sem,h2,h3]
 by_cases h4:24 < (x.2.length:Int)
 ·refine fe Tryz.func111 Tryz.ntmps111 Tryz.results111 fun hwf=>?_
  try simp (maxSteps:=9^9) only[go_sem]
  repeat refine AI ?_
  refine cw (implBigIntOk_fn x) ?_
  try simp (maxSteps:=9^9) only[go_sem]
  try simp (maxSteps:=9^9) only[go_sem,h1]
  repeat refine AI ?_
  refine cw (implNatOk_fn d) ?_
  try simp (maxSteps:=9^9) only[go_sem]
  try simp (maxSteps:=9^9) only[go_sem,h2,h3,h4]
 by_cases h5:24 < (d.length:Int)
 ·refine fe Tryz.func111 Tryz.ntmps111 Tryz.results111 fun hwf=>?_
  try simp (maxSteps:=9^9) only[go_sem]
  repeat refine AI ?_
  refine cw (implBigIntOk_fn x) ?_
  try simp (maxSteps:=9^9) only[go_sem]
  try simp (maxSteps:=9^9) only[go_sem,h1]
  repeat refine AI ?_
  refine cw (implNatOk_fn d) ?_
  try simp (maxSteps:=9^9) only[go_sem]
  try simp (maxSteps:=9^9) only[go_sem,h2,h3,h4,h5]
 obtain ⟨z,rfl,_⟩:=okBP_iff.1 (okB_iff.1 h1)
 obtain ⟨n,rfl,_⟩:=okNP_iff.1 (okN_iff.1 h2)
 have h1':okB (decide (z < 0),natL z.natAbs)=true:=h1
 have h3':¬ (nl n:Int)=0:=h3
 have h4':¬ 24 < (nl z.natAbs:Int):=h4
 have h5':¬ 24 < (nl n:Int):=h5
 have hv:val (bigD z).2=z.natAbs:=val_natL _
 rw [hv,val_natL]
 by_cases hn:n=1
 ·refine fe Tryz.func111 Tryz.ntmps111 Tryz.results111 fun hwf=>?_
  try simp (maxSteps:=9^9) only[go_sem]
  repeat refine AI ?_
  refine cw (implBigIntOk_fn (bigD z)) ?_
  try simp (maxSteps:=9^9) only[go_sem]
  try simp (maxSteps:=9^9) only[go_sem,h1']
  repeat refine AI ?_
  refine cw (implNatOk_fn (natL n)) ?_
  try simp (maxSteps:=9^9) only[go_sem]
  try simp (maxSteps:=9^9) only[go_sem,h2,h3',h4',h5']
  repeat refine AI ?_
  refine cw (isOne_fn n) ?_
  try simp (maxSteps:=9^9) only[go_sem]
  try simp (maxSteps:=9^9) only[go_sem,hn]
  simp
 ·refine fe Tryz.func111 Tryz.ntmps111 Tryz.results111 fun hwf=>?_
  try simp (maxSteps:=9^9) only[go_sem]
  repeat refine AI ?_
  refine cw (implBigIntOk_fn (bigD z)) ?_
  try simp (maxSteps:=9^9) only[go_sem]
  try simp (maxSteps:=9^9) only[go_sem,h1']
  repeat refine AI ?_
  refine cw (implNatOk_fn (natL n)) ?_
  try simp (maxSteps:=9^9) only[go_sem]
  try simp (maxSteps:=9^9) only[go_sem,h2,h3',h4',h5']
  repeat refine AI ?_
  refine cw (isOne_fn n) ?_
  try simp (maxSteps:=9^9) only[go_sem]
  try simp (maxSteps:=9^9) only[go_sem,hn]
  repeat refine AI ?_
  refine cw (natGcd_fn z.natAbs n (by omega) (by omega)) ?_
  try simp (maxSteps:=9^9) only[go_sem]
  repeat refine AI ?_
  refine cw (isOne_fn (Nat.gcd z.natAbs n)) ?_
  try simp (maxSteps:=9^9) only[go_sem]
theorem specRatOk_fn (r:DR):Fn Tryz.prog 78 [⟨tRat,r⟩] false [⟨.bool,okR r⟩]:=by
 obtain ⟨x,d⟩:=r
 rw [okR_eq]
 cases h1:okB x
 ·refine fe Tryz.func78 Tryz.ntmps78 Tryz.results78 fun hwf=>?_
  try simp (maxSteps:=9^9) only[go_sem]
  repeat refine AI ?_
  refine cw (specBigIntOk_fn x) ?_
  try simp (maxSteps:=9^9) only[go_sem]
  try simp (maxSteps:=9^9) only[go_sem,h1]
 cases h2:okN d
 ·refine fe Tryz.func78 Tryz.ntmps78 Tryz.results78 fun hwf=>?_
  try simp (maxSteps:=9^9) only[go_sem]
  repeat refine AI ?_
  refine cw (specBigIntOk_fn x) ?_
  try simp (maxSteps:=9^9) only[go_sem]
  try simp (maxSteps:=9^9) only[go_sem,h1]
  repeat refine AI ?_
  refine cw (specNatOk_fn d) ?_
  try simp (maxSteps:=9^9) only[go_sem]
  try simp (maxSteps:=9^9) only[go_sem,h2]
 by_cases h3:(d.length:Int)=0
 ·refine fe Tryz.func78 Tryz.ntmps78 Tryz.results78 fun hwf=>?_
  try simp (maxSteps:=9^9) only[go_sem]
  repeat refine AI ?_
  refine cw (specBigIntOk_fn x) ?_
  try simp (maxSteps:=9^9) only[go_sem]
  try simp (maxSteps:=9^9) only[go_sem,h1]
  repeat refine AI ?_
  refine cw (specNatOk_fn d) ?_
  try simp (maxSteps:=9^9) only[go_sem]
  try simp (maxSteps:=9^9) only[go_sem,h2,h3]
 by_cases h5:24 < (d.length:Int)
 ·refine fe Tryz.func78 Tryz.ntmps78 Tryz.results78 fun hwf=>?_
  try simp (maxSteps:=9^9) only[go_sem]
  repeat refine AI ?_
  refine cw (specBigIntOk_fn x) ?_
  try simp (maxSteps:=9^9) only[go_sem]
  try simp (maxSteps:=9^9) only[go_sem,h1]
  repeat refine AI ?_
  refine cw (specNatOk_fn d) ?_
  try simp (maxSteps:=9^9) only[go_sem]
  try simp (maxSteps:=9^9) only[go_sem,h2,h3,h5]
 by_cases h4:24 < (x.2.length:Int)
 ·refine fe Tryz.func78 Tryz.ntmps78 Tryz.results78 fun hwf=>?_
  try simp (maxSteps:=9^9) only[go_sem]
  repeat refine AI ?_
  refine cw (specBigIntOk_fn x) ?_
  try simp (maxSteps:=9^9) only[go_sem]
  try simp (maxSteps:=9^9) only[go_sem,h1]
  repeat refine AI ?_
  refine cw (specNatOk_fn d) ?_
  try simp (maxSteps:=9^9) only[go_sem]
  try simp (maxSteps:=9^9) only[go_sem,h2,h3,h5,h4]
 obtain ⟨z,rfl,_⟩:=okBP_iff.1 (okB_iff.1 h1)
 obtain ⟨n,rfl,_⟩:=okNP_iff.1 (okN_iff.1 h2)
 have h1':okB (decide (z < 0),natL z.natAbs)=true:=h1
 have h3':¬ (nl n:Int)=0:=h3
 have h4':¬ 24 < (nl z.natAbs:Int):=h4
 have h5':¬ 24 < (nl n:Int):=h5
 have hv:val (bigD z).2=z.natAbs:=val_natL _
 rw [hv,val_natL]
 refine fe Tryz.func78 Tryz.ntmps78 Tryz.results78 fun hwf=>?_
 try simp (maxSteps:=9^9) only[go_sem]
 repeat refine AI ?_
 refine cw (specBigIntOk_fn (bigD z)) ?_
 try simp (maxSteps:=9^9) only[go_sem]
 try simp (maxSteps:=9^9) only[go_sem,h1']
 repeat refine AI ?_
 refine cw (specNatOk_fn (natL n)) ?_
 try simp (maxSteps:=9^9) only[go_sem]
 try simp (maxSteps:=9^9) only[go_sem,h2,h3',h4',h5']
 repeat refine AI ?_
 refine cw (l02Gcd_fn z.natAbs n (by omega) (by omega)) ?_
 try simp (maxSteps:=9^9) only[go_sem]
 repeat refine AI ?_
 refine cw (l04One_fn (Nat.gcd z.natAbs n)) ?_
 try simp (maxSteps:=9^9) only[go_sem]
end Go.Proofs.YtaeckjmkjhffnaaGreatDoor.DW

namespace Go.Proofs.YtaeckjmkjhffnaaGreatDoor.DW
open Go.RowKit
attribute [go_sem] Option.isSome_none bigD_nat
end Go.Proofs.YtaeckjmkjhffnaaGreatDoor.DW

namespace Go.Proofs.YtaeckjmkjhffnaaGreatDoor.DW
open Go.RowKit
attribute [go_sem] Prod.eta
abbrev DP:Type:=DR × DR
noncomputable def okPt (p:DP):Bool:=okR p.1 && okR p.2
theorem implIsValidPoint_fn (p:DP):Fn Tryz.prog 83 [⟨tPoint,p⟩] false [⟨.bool,okPt p⟩]:=by
 cases h:okR p.1
 ·refine fe Tryz.func83 Tryz.ntmps83 Tryz.results83 fun hwf=>?_
  try simp (maxSteps:=9^9) only[go_sem]
  repeat refine AI ?_
  refine cw (implRatOk_fn p.1) ?_
  try simp (maxSteps:=9^9) only[go_sem]
  try simp (maxSteps:=9^9) only[go_sem,h]
  repeat refine AI ?_
  simp [okPt,h]
 ·refine fe Tryz.func83 Tryz.ntmps83 Tryz.results83 fun hwf=>?_
  try simp (maxSteps:=9^9) only[go_sem]
  repeat refine AI ?_
  refine cw (implRatOk_fn p.1) ?_
  try simp (maxSteps:=9^9) only[go_sem]
  try simp (maxSteps:=9^9) only[go_sem,h]
  repeat refine AI ?_
  refine cw (implRatOk_fn p.2) ?_
  try simp (maxSteps:=9^9) only[go_sem]
  repeat refine AI ?_
  simp [okPt,h]
theorem specIsValidPoint_fn (p:DP):Fn Tryz.prog 44 [⟨tPoint,p⟩] false [⟨.bool,okPt p⟩]:=by
 cases h:okR p.1
 ·refine fe Tryz.func44 Tryz.ntmps44 Tryz.results44 fun hwf=>?_
  try simp (maxSteps:=9^9) only[go_sem]
  repeat refine AI ?_
  refine cw (specRatOk_fn p.1) ?_
  try simp (maxSteps:=9^9) only[go_sem]
  try simp (maxSteps:=9^9) only[go_sem,h]
  repeat refine AI ?_
  simp [okPt,h]
 ·refine fe Tryz.func44 Tryz.ntmps44 Tryz.results44 fun hwf=>?_
  try simp (maxSteps:=9^9) only[go_sem]
  repeat refine AI ?_
  refine cw (specRatOk_fn p.1) ?_
  try simp (maxSteps:=9^9) only[go_sem]
  try simp (maxSteps:=9^9) only[go_sem,h]
  repeat refine AI ?_
  refine cw (specRatOk_fn p.2) ?_
  try simp (maxSteps:=9^9) only[go_sem]
  repeat refine AI ?_
  simp [okPt,h]
theorem indexFunc_pt_fn (F:FuncId) (p:DP->Bool) (hF:∀ x:DP,Fn Tryz.prog F [⟨tPoint,x⟩] false [⟨.bool,p x⟩]) (l:List DP):Fn Tryz.prog 110 [⟨.slice tPoint,l⟩,⟨.cst (.fn F),()⟩] false [⟨.int,ixf (t:=tPoint) p l⟩]:=by
 refine fe Tryz.func110 Tryz.ntmps110 Tryz.results110 fun hwf=>?_
 have hl:l.length<=9223372036854775807:=(hwf ⟨.slice tPoint,l⟩ (by simp)).1
 try simp (maxSteps:=9^9) only[go_sem]
 refine LoopG.intro _ _ _ (fun i:Nat=>⟨[(0,.sl tPoint l),(1,.sc (.func (.func F) #[] #[])),(7,.sc (.int .i64 l.length)),(8,.sc (.int .i64 i))],[]⟩) (fun i=>∀ j < i,j < l.length->p (nth (t:=tPoint) l j)=false) (fun i=>l.length - i) 0 ?_ (fun j h=>by simp at h) ?_
 ·exact WK
 ·rintro i h2
  try simp (maxSteps:=9^9) only[go_sem]
  refine CondW_dec (fun h3=>?_) (fun h3=>?_)
  ·try simp (maxSteps:=9^9) only[go_sem]
   repeat refine AI ?_
   repeat refine AI ?_
   refine cw (hF (nth (t:=tPoint) l i)) ?_
   try simp (maxSteps:=9^9) only[go_sem]
   refine CondW_b (fun h4=>?_) (fun h4=>?_)
   ·try simp (maxSteps:=9^9) only[go_sem]
    exact (ixf_at (by omega) h4 (fun j hj=>h2 j hj (by omega))).symm
   ·try simp (maxSteps:=9^9) only[go_sem]
    repeat refine AI ?_
    refine LoopK.mk (i+1) ?_ (fun j hj hl=>?_) (by omega)
    ·exact WK
    ·by_cases hj2:j < i
     ·exact h2 j hj2 hl
     ·rw [show j=i by omega]; exact h4
  ·try simp (maxSteps:=9^9) only[go_sem]
   exact (ixf_none fun j hj=>h2 j (by omega) hj).symm
theorem containsFunc_pt_fn (F:FuncId) (p:DP->Bool) (hF:∀ x:DP,Fn Tryz.prog F [⟨tPoint,x⟩] false [⟨.bool,p x⟩]) (l:List DP):Fn Tryz.prog 81 [⟨.slice tPoint,l⟩,⟨.cst (.fn F),()⟩] false [⟨.bool,l.any p⟩]:=by
 refine fe Tryz.func81 Tryz.ntmps81 Tryz.results81 fun hwf=>?_
 try simp (maxSteps:=9^9) only[go_sem]
 repeat refine AI ?_
 refine cw (indexFunc_pt_fn F p hF l) ?_
 try simp (maxSteps:=9^9) only[go_sem]
 exact ixf_any
theorem arePointsC_fn (p:DP):Fn Tryz.prog 82 [⟨tPoint,p⟩] false [⟨.bool,!okPt p⟩]:=by
 refine fe Tryz.func82 Tryz.ntmps82 Tryz.results82 fun hwf=>?_
 try simp (maxSteps:=9^9) only[go_sem]
 repeat refine AI ?_
 refine cw (implIsValidPoint_fn p) ?_
 try simp (maxSteps:=9^9) only[go_sem]
theorem arePoints_fn (l:List DP):Fn Tryz.prog 49 [⟨.slice tPoint,l⟩] false [⟨.bool,!(l.any fun p=>!okPt p)⟩]:=by
 refine fe Tryz.func49 Tryz.ntmps49 Tryz.results49 fun hwf=>?_
 try simp (maxSteps:=9^9) only[go_sem]
 repeat refine AI ?_
 refine cw (containsFunc_pt_fn _ _ arePointsC_fn l) ?_
 try simp (maxSteps:=9^9) only[go_sem]
theorem arePoints1_fn (p:DP):Fn Tryz.prog 49 [⟨.slice tPoint,[p]⟩] false [⟨.bool,okPt p⟩]:=by
 have h:=arePoints_fn [p]
 have e:(!([p].any fun p=>!okPt p))=okPt p:=by simp
 rw [e] at h; exact h
end Go.Proofs.YtaeckjmkjhffnaaGreatDoor.DW

namespace Go.Proofs.YtaeckjmkjhffnaaGreatDoor.DW
open Go.RowKit
theorem okN_lbs {l:List Int} (h:okN l=true):lbs l/\l.length<=60:=by
 have h:=okN_iff.1 h
 exact ⟨fun i hi=>by rw [ni_lt hi]; exact h.1 _ (List.getElem_mem hi),h.2.1⟩
def fmtB (x:DB):List UInt8:=if x.1=true then 45 :: fmtN x.2 else fmtN x.2
def fmtQ (r:DR):List UInt8:=if val r.2=1 then fmtB r.1 else fmtB r.1++47 :: fmtN r.2
def fmtP (p:DP):List UInt8:=fmtQ p.1++44 :: fmtQ p.2
theorem fmtN_len {l:List Int} (h:lbs l):(fmtN l).length<=9 * l.length+1:=by
 unfold fmtN
 split
 ·simp
 ·have:=(pad9 h (i:=l.length - 1) (by omega)).1
  rw [List.length_append,fmtR_len h _ (by omega)]; omega
theorem okB_lbs {x:DB} (h:okB x=true):lbs x.2/\x.2.length<=60/\okN x.2=true:=by
 obtain ⟨z,rfl,h2⟩:=okBP_iff.1 (okB_iff.1 h)
 have:okN (natL z.natAbs)=true:=okN_iff.2 (okNP_iff.2 ⟨_,rfl,h2⟩)
 exact ⟨(okN_lbs this).1,(okN_lbs this).2,this⟩
theorem formatBig_fn (x:DB) (h:okB x=true):Fn Tryz.prog 113 [⟨tBig,x⟩] false [⟨.str,bs (fmtB x)⟩]:=by
 obtain ⟨s,l⟩:=x
 obtain ⟨h1,h2,h3⟩:=okB_lbs h
 have hl:=fmtN_len h1
 cases s
 ·refine fe Tryz.func113 Tryz.ntmps113 Tryz.results113 fun hwf=>?_
  try simp (maxSteps:=9^9) only[go_sem]
  repeat refine AI ?_
  refine cw (formatNat_fn l h1 h2) ?_
  try simp (maxSteps:=9^9) only[go_sem]
  rfl
 ·refine fe Tryz.func113 Tryz.ntmps113 Tryz.results113 fun hwf=>?_
  try simp (maxSteps:=9^9) only[go_sem]
  repeat refine AI ?_
  refine cw (formatNat_fn l h1 h2) ?_
  try simp (maxSteps:=9^9) only[go_sem]
  exact ⟨ml (by simp at hl h2; omega),rfl⟩
theorem formatBigS_fn (x:DB) (h:okB x=true):Fn Tryz.prog 106 [⟨tBig,x⟩] false [⟨.str,bs (fmtB x)⟩]:=by
 obtain ⟨s,l⟩:=x
 obtain ⟨h1,h2,h3⟩:=okB_lbs h
 have hl:=fmtN_len h1
 cases s
 ·refine fe Tryz.func106 Tryz.ntmps106 Tryz.results106 fun hwf=>?_
  try simp (maxSteps:=9^9) only[go_sem]
  repeat refine AI ?_
  refine cw (specBigIntOk_fn (false,l)) ?_
  try simp (maxSteps:=9^9) only[go_sem]
  try simp (maxSteps:=9^9) only[go_sem,h]
  repeat refine AI ?_
  refine cw (formatNatS_fn l h1 h2 h3) ?_
  try simp (maxSteps:=9^9) only[go_sem]
  rfl
 ·refine fe Tryz.func106 Tryz.ntmps106 Tryz.results106 fun hwf=>?_
  try simp (maxSteps:=9^9) only[go_sem]
  repeat refine AI ?_
  refine cw (specBigIntOk_fn (true,l)) ?_
  try simp (maxSteps:=9^9) only[go_sem]
  try simp (maxSteps:=9^9) only[go_sem,h]
  repeat refine AI ?_
  refine cw (formatNatS_fn l h1 h2 h3) ?_
  try simp (maxSteps:=9^9) only[go_sem]
  exact ⟨ml (by simp at hl h2; omega),rfl⟩
theorem okR_parts {r:DR} (h:okR r=true):okB r.1=true/\okN r.2=true/\∃ (z:Int) (n:Nat),r=(bigD z,natL n):=by
 obtain ⟨x,d⟩:=r
 rw [okR_eq] at h
 simp only [Bool.and_eq_true] at h
 obtain ⟨⟨⟨⟨⟨h1,h2⟩,_⟩,_⟩,_⟩,_⟩:=h
 obtain ⟨z,e1,_⟩:=okBP_iff.1 (okB_iff.1 h1)
 obtain ⟨n,e2,_⟩:=okNP_iff.1 (okN_iff.1 h2)
 exact ⟨h1,h2,z,n,by rw [e1,e2]⟩
theorem fmtB_len {x:DB} (h:okB x=true):(fmtB x).length<=542:=by
 obtain ⟨h1,h2,_⟩:=okB_lbs h
 have:=fmtN_len h1
 unfold fmtB
 split
 ·rw [List.length_cons]; omega
 ·omega
theorem fmtQ_len {r:DR} (h:okR r=true):(fmtQ r).length<=1084:=by
 obtain ⟨h1,h2,_⟩:=okR_parts h
 have a1:=fmtB_len h1
 have a2:=fmtN_len (okN_lbs h2).1
 have a3:=(okN_lbs h2).2
 unfold fmtQ
 split
 ·omega
 ·rw [List.length_append,List.length_cons]; omega
theorem formatRat_fn (r:DR) (h:okR r=true):Fn Tryz.prog 84 [⟨tRat,r⟩] false [⟨.str,bs (fmtQ r)⟩]:=by
 obtain ⟨h1,h2,z,n,rfl⟩:=okR_parts h
 have hv:val (natL n)=n:=val_natL n
 have a1:=fmtB_len h1
 have a2:=fmtN_len (okN_lbs h2).1
 have a3:=(okN_lbs h2).2
 dsimp only at h1 h2 a1 a2 a3
 have a1':(fmtB (decide (z < 0),natL z.natAbs)).length<=542:=a1
 have h':okR ((decide (z < 0),natL z.natAbs),natL n)=true:=h
 by_cases hn:n=1
 ·have e:fmtQ (bigD z,natL n)=fmtB (bigD z):=if_pos (by show val (natL n)=1; rw [hv]; exact hn)
  rw [e]
  refine fe Tryz.func84 Tryz.ntmps84 Tryz.results84 fun hwf=>?_
  try simp (maxSteps:=9^9) only[go_sem]
  repeat refine AI ?_
  refine cw (isOne_fn n) ?_
  try simp (maxSteps:=9^9) only[go_sem]
  try simp (maxSteps:=9^9) only[go_sem,hn]
  repeat refine AI ?_
  refine cw (formatBig_fn (bigD z) h1) ?_
  try simp (maxSteps:=9^9) only[go_sem]
 ·have e:fmtQ (bigD z,natL n)=fmtB (bigD z)++47 :: fmtN (natL n):=if_neg (by show ¬ val (natL n)=1; rw [hv]; exact hn)
  rw [e]
  refine fe Tryz.func84 Tryz.ntmps84 Tryz.results84 fun hwf=>?_
  try simp (maxSteps:=9^9) only[go_sem]
  repeat refine AI ?_
  refine cw (isOne_fn n) ?_
  try simp (maxSteps:=9^9) only[go_sem]
  try simp (maxSteps:=9^9) only[go_sem,hn]
  repeat refine AI ?_
  refine cw (formatBig_fn (bigD z) h1) ?_
  try simp (maxSteps:=9^9) only[go_sem]
  refine ⟨ml (by omega),?_⟩
  repeat refine AI ?_
  refine cw (formatNat_fn (natL n) (okN_lbs h2).1 (okN_lbs h2).2) ?_
  try simp (maxSteps:=9^9) only[go_sem]
  refine ⟨ml (by omega),by kernel_rfl,?_⟩
  rw [List.append_assoc]; rfl
noncomputable def fmtRO (r:DR):List UInt8:=if okR r=true then fmtQ r else []
theorem formatRatS_fn (r:DR):Fn Tryz.prog 79 [⟨tRat,r⟩] false [⟨.str,bs (fmtRO r)⟩]:=by
 cases h:okR r
 ·rw [show fmtRO r=[] from if_neg (by rw [h]; decide)]
  refine fe Tryz.func79 Tryz.ntmps79 Tryz.results79 fun hwf=>?_
  try simp (maxSteps:=9^9) only[go_sem]
  repeat refine AI ?_
  refine cw (specRatOk_fn r) ?_
  try simp (maxSteps:=9^9) only[go_sem]
  try simp (maxSteps:=9^9) only[go_sem,h]
 ·rw [show fmtRO r=fmtQ r from if_pos h]
  obtain ⟨h1,h2,z,n,rfl⟩:=okR_parts h
  have hv:val (natL n)=n:=val_natL n
  have a1:=fmtB_len h1
  have a2:=fmtN_len (okN_lbs h2).1
  have a3:=(okN_lbs h2).2
  dsimp only at h1 h2 a1 a2 a3
  have a1':(fmtB (decide (z < 0),natL z.natAbs)).length<=542:=a1
  have h':okR ((decide (z < 0),natL z.natAbs),natL n)=true:=h
  by_cases hn:n=1
  ·have e:fmtQ (bigD z,natL n)=fmtB (bigD z):=if_pos (by show val (natL n)=1; rw [hv]; exact hn)
   rw [e]
   refine fe Tryz.func79 Tryz.ntmps79 Tryz.results79 fun hwf=>?_
   try simp (maxSteps:=9^9) only[go_sem]
   repeat refine AI ?_
   refine cw (specRatOk_fn (bigD z,natL n)) ?_
   try simp (maxSteps:=9^9) only[go_sem]
   try simp (maxSteps:=9^9) only[go_sem,h']
   repeat refine AI ?_
   refine cw (l04One_fn n) ?_
   try simp (maxSteps:=9^9) only[go_sem]
   try simp (maxSteps:=9^9) only[go_sem,hn]
   repeat refine AI ?_
   refine cw (formatBigS_fn (bigD z) h1) ?_
   try simp (maxSteps:=9^9) only[go_sem]
  ·have e:fmtQ (bigD z,natL n)=fmtB (bigD z)++47 :: fmtN (natL n):=if_neg (by show ¬ val (natL n)=1; rw [hv]; exact hn)
   rw [e]
   refine fe Tryz.func79 Tryz.ntmps79 Tryz.results79 fun hwf=>?_
   try simp (maxSteps:=9^9) only[go_sem]
   repeat refine AI ?_
   refine cw (specRatOk_fn (bigD z,natL n)) ?_
   try simp (maxSteps:=9^9) only[go_sem]
   try simp (maxSteps:=9^9) only[go_sem,h']
   repeat refine AI ?_
   refine cw (l04One_fn n) ?_
   try simp (maxSteps:=9^9) only[go_sem]
   try simp (maxSteps:=9^9) only[go_sem,hn]
   repeat refine AI ?_
   refine cw (formatBigS_fn (bigD z) h1) ?_
   try simp (maxSteps:=9^9) only[go_sem]
   refine ⟨ml (by omega),?_⟩
   repeat refine AI ?_
   refine cw (formatNatS_fn (natL n) (okN_lbs h2).1 (okN_lbs h2).2 h2) ?_
   try simp (maxSteps:=9^9) only[go_sem]
   refine ⟨ml (by omega),by kernel_rfl,?_⟩
   rw [List.append_assoc]; rfl
theorem okPt_parts {p:DP} (h:okPt p=true):okR p.1=true/\okR p.2=true:=by
 rw [okPt,Bool.and_eq_true] at h; exact h
noncomputable def fmtPO (p:DP):List UInt8:=if okPt p=true then fmtP p else []
theorem fmtP_len {p:DP} (h:okPt p=true):(fmtP p).length<=2170:=by
 obtain ⟨h1,h2⟩:=okPt_parts h
 have a1:=fmtQ_len h1
 have a2:=fmtQ_len h2
 unfold fmtP
 rw [List.length_append,List.length_cons]; omega
theorem formatPoint_fn (p:DP):Fn Tryz.prog 50 [⟨tPoint,p⟩] false [⟨.str,bs (fmtPO p)⟩]:=by
 cases h:okPt p
 ·rw [show fmtPO p=[] from if_neg (by rw [h]; decide)]
  refine fe Tryz.func50 Tryz.ntmps50 Tryz.results50 fun hwf=>?_
  try simp (maxSteps:=9^9) only[go_sem]
  repeat refine AI ?_
  refine cw (arePoints1_fn p) ?_
  try simp (maxSteps:=9^9) only[go_sem]
  try simp (maxSteps:=9^9) only[go_sem,h]
 ·rw [show fmtPO p=fmtP p from if_pos h]
  obtain ⟨h1,h2⟩:=okPt_parts h
  have a1:=fmtQ_len h1
  have a2:=fmtQ_len h2
  refine fe Tryz.func50 Tryz.ntmps50 Tryz.results50 fun hwf=>?_
  try simp (maxSteps:=9^9) only[go_sem]
  repeat refine AI ?_
  refine cw (arePoints1_fn p) ?_
  try simp (maxSteps:=9^9) only[go_sem]
  try simp (maxSteps:=9^9) only[go_sem,h]
  repeat refine AI ?_
  refine cw (formatRat_fn p.1 h1) ?_
  try simp (maxSteps:=9^9) only[go_sem]
  refine ⟨ml (by omega),?_⟩
  repeat refine AI ?_
  refine cw (formatRat_fn p.2 h2) ?_
  try simp (maxSteps:=9^9) only[go_sem]
  refine ⟨ml (by omega),by kernel_rfl,?_⟩
  rw [List.append_assoc]; rfl
theorem formatPointS_fn (p:DP):Fn Tryz.prog 46 [⟨tPoint,p⟩] false [⟨.str,bs (fmtPO p)⟩]:=by
 cases h:okPt p
 ·rw [show fmtPO p=[] from if_neg (by rw [h]; decide)]
  refine fe Tryz.func46 Tryz.ntmps46 Tryz.results46 fun hwf=>?_
  try simp (maxSteps:=9^9) only[go_sem]
  repeat refine AI ?_
  refine cw (specIsValidPoint_fn p) ?_
  try simp (maxSteps:=9^9) only[go_sem]
  try simp (maxSteps:=9^9) only[go_sem,h]
 ·rw [show fmtPO p=fmtP p from if_pos h]
  obtain ⟨h1,h2⟩:=okPt_parts h
  have a1:=fmtQ_len h1
  have a2:=fmtQ_len h2
  have e1:fmtRO p.1=fmtQ p.1:=if_pos h1
  have e2:fmtRO p.2=fmtQ p.2:=if_pos h2
  have c1:=formatRatS_fn p.1
  have c2:=formatRatS_fn p.2
  rw [e1] at c1
  rw [e2] at c2
  refine fe Tryz.func46 Tryz.ntmps46 Tryz.results46 fun hwf=>?_
  try simp (maxSteps:=9^9) only[go_sem]
  repeat refine AI ?_
  refine cw (specIsValidPoint_fn p) ?_
  try simp (maxSteps:=9^9) only[go_sem]
  try simp (maxSteps:=9^9) only[go_sem,h]
  repeat refine AI ?_
  refine cw c1 ?_
  try simp (maxSteps:=9^9) only[go_sem]
  refine ⟨ml (by omega),?_⟩
  repeat refine AI ?_
  refine cw c2 ?_
  try simp (maxSteps:=9^9) only[go_sem]
  refine ⟨ml (by omega),by kernel_rfl,?_⟩
  rw [List.append_assoc]; rfl
def wrd (t:Int):List UInt8:=if t=-1 then [114,105,103,104,116] else if t=0 then [109,111,118,101] else [108,101,102,116]
noncomputable def fmtS (p:Int × DP):List UInt8:=if (-1<=p.1/\p.1<=1)/\okPt p.2=true then wrd p.1++32 :: fmtP p.2 else []
theorem fmtS_no {h:Int} {q:DP} (ho:okPt q=false):fmtS (h,q)=[]:=if_neg fun ⟨_,e⟩=>by rw [ho] at e; cases e
theorem stepWords_fn:Fn Tryz.prog 54 [] true [⟨.slice .str,[bs [114,105,103,104,116],bs [109,111,118,101],bs [108,101,102,116]]⟩]:=by
 refine fe Tryz.func54 Tryz.ntmps54 Tryz.results54 fun hwf=>?_
 try simp (maxSteps:=9^9) only[go_sem]
theorem wrd_nth {t:Int} (h0:-1<=t) (h3:t<=1):@nth .str [bs [114,105,103,104,116],bs [109,111,118,101],bs [108,101,102,116]] (t+1).toNat=bs (wrd t):=by
 obtain rfl|rfl|rfl:t=-1\/t=0\/t=1:=by omega
 all_goals rfl
theorem wrd_nthS {t:Int} (h0:-1<=t) (h3:t<=1):@nth .str [bs [114,105,103,104,116,32],bs [109,111,118,101,32],bs [108,101,102,116,32]] (t+1).toNat=bs (wrd t++[32]):=by
 obtain rfl|rfl|rfl:t=-1\/t=0\/t=1:=by omega
 all_goals rfl
theorem wrd_len (t:Int):(wrd t).length<=5:=by unfold wrd; split; decide; split; decide; decide
theorem l22Turn_fn (t:Int):Fn Tryz.prog 52 [⟨.int,t⟩] false [⟨.bool,decide (-1<=t/\t<=1)⟩]:=by
 refine fe Tryz.func52 Tryz.ntmps52 Tryz.results52 fun hwf=>?_
 try simp (maxSteps:=9^9) only[go_sem]
 repeat refine AI ?_
 refine cw (l01In_fn t (-1) 1) ?_
 try simp (maxSteps:=9^9) only[go_sem]
theorem formatStep_fn (h:Int) (q:DP):Fn Tryz.prog 18 [⟨tStep,(h,q)⟩] false [⟨.str,bs (fmtS (h,q))⟩]:=by
 by_cases hh:-1<=h/\h<=1
 ·cases ho:okPt q
  ·rw [fmtS_no ho]
   refine fe Tryz.func18 Tryz.ntmps18 Tryz.results18 fun hwf=>?_
   try simp (maxSteps:=9^9) only[go_sem]
   repeat refine AI ?_
   refine cw (within_fn h (-1) 1) ?_
   try simp (maxSteps:=9^9) only[go_sem]
   try simp (maxSteps:=9^9) only[go_sem,hh]
   repeat refine AI ?_
   refine cw (arePoints1_fn q) ?_
   try simp (maxSteps:=9^9) only[go_sem]
   try simp (maxSteps:=9^9) only[go_sem,ho]
  ·rw [show fmtS (h,q)=wrd h++32 :: fmtP q from if_pos ⟨hh,ho⟩]
   have a1:=fmtP_len ho
   have a2:=wrd_len h
   have e1:fmtPO q=fmtP q:=if_pos ho
   have c1:=formatPoint_fn q
   rw [e1] at c1
   refine fe Tryz.func18 Tryz.ntmps18 Tryz.results18 fun hwf=>?_
   try simp (maxSteps:=9^9) only[go_sem]
   repeat refine AI ?_
   refine cw (within_fn h (-1) 1) ?_
   try simp (maxSteps:=9^9) only[go_sem]
   try simp (maxSteps:=9^9) only[go_sem,hh]
   repeat refine AI ?_
   refine cw (arePoints1_fn q) ?_
   try simp (maxSteps:=9^9) only[go_sem]
   try simp (maxSteps:=9^9) only[go_sem,ho]
   repeat refine AI ?_
   refine cw stepWords_fn ?_
   try simp (maxSteps:=9^9) only[go_sem]
   refine ⟨by constructor<;>omega,by omega,by show h+1 < ((3:Nat):Int); omega,?_⟩
   rw [wrd_nth hh.1 hh.2]
   try simp (maxSteps:=9^9) only[go_sem]
   refine ⟨ml (by omega),?_⟩
   refine cw c1 ?_
   try simp (maxSteps:=9^9) only[go_sem]
   refine ⟨ml (by omega),by kernel_rfl,?_⟩
   rw [List.append_assoc]; rfl
 ·rw [show fmtS (h,q)=[] from if_neg (fun h=>hh h.1)]
  refine fe Tryz.func18 Tryz.ntmps18 Tryz.results18 fun hwf=>?_
  try simp (maxSteps:=9^9) only[go_sem]
  repeat refine AI ?_
  refine cw (within_fn h (-1) 1) ?_
  try simp (maxSteps:=9^9) only[go_sem]
  try simp (maxSteps:=9^9) only[go_sem,hh]
theorem formatStepS_fn (h:Int) (q:DP):Fn Tryz.prog 16 [⟨tStep,(h,q)⟩] false [⟨.str,bs (fmtS (h,q))⟩]:=by
 by_cases hh:-1<=h/\h<=1
 ·cases ho:okPt q
  ·rw [fmtS_no ho]
   refine fe Tryz.func16 Tryz.ntmps16 Tryz.results16 fun hwf=>?_
   try simp (maxSteps:=9^9) only[go_sem]
   repeat refine AI ?_
   refine cw (l22Turn_fn h) ?_
   try simp (maxSteps:=9^9) only[go_sem]
   try simp (maxSteps:=9^9) only[go_sem,hh]
   repeat refine AI ?_
   refine cw (specIsValidPoint_fn q) ?_
   try simp (maxSteps:=9^9) only[go_sem]
   try simp (maxSteps:=9^9) only[go_sem,ho]
  ·rw [show fmtS (h,q)=wrd h++32 :: fmtP q from if_pos ⟨hh,ho⟩]
   have a1:=fmtP_len ho
   have a2:=wrd_len h
   have e1:fmtPO q=fmtP q:=if_pos ho
   have c1:=formatPointS_fn q
   rw [e1] at c1
   refine fe Tryz.func16 Tryz.ntmps16 Tryz.results16 fun hwf=>?_
   try simp (maxSteps:=9^9) only[go_sem]
   repeat refine AI ?_
   refine cw (l22Turn_fn h) ?_
   try simp (maxSteps:=9^9) only[go_sem]
   try simp (maxSteps:=9^9) only[go_sem,hh]
   repeat refine AI ?_
   refine cw (specIsValidPoint_fn q) ?_
   try simp (maxSteps:=9^9) only[go_sem]
   try simp (maxSteps:=9^9) only[go_sem,ho]
   refine ⟨by constructor<;>omega,by omega,by show h+1 < ((3:Nat):Int); omega,by omega,?_⟩
   refine cw c1 ?_
   try simp (maxSteps:=9^9) only[go_sem]
   rw [wrd_nthS hh.1 hh.2]
   try simp (maxSteps:=9^9) only[go_sem]
   refine ⟨ml (by omega),by kernel_rfl,?_⟩
   rw [List.append_assoc]; rfl
 ·rw [show fmtS (h,q)=[] from if_neg (fun h=>hh h.1)]
  refine fe Tryz.func16 Tryz.ntmps16 Tryz.results16 fun hwf=>?_
  try simp (maxSteps:=9^9) only[go_sem]
  repeat refine AI ?_
  refine cw (l22Turn_fn h) ?_
  try simp (maxSteps:=9^9) only[go_sem]
  try simp (maxSteps:=9^9) only[go_sem,hh]
theorem formatStep_at (x:tStep.den):Fn Tryz.prog 18 [⟨tStep,x⟩] false [⟨.str,bs (fmtS x)⟩]:=by
 obtain ⟨h,q⟩:=x
 exact formatStep_fn h q
theorem formatStepS_at (x:tStep.den):Fn Tryz.prog 16 [⟨tStep,x⟩] false [⟨.str,bs (fmtS x)⟩]:=by
 obtain ⟨h,q⟩:=x
 exact formatStepS_fn h q
theorem fmtS_len (x:tStep.den):(fmtS x).length<=2200:=by
 obtain ⟨h,q⟩:=x
 by_cases hc:(-1<=h/\h<=1)/\okPt q=true
 ·rw [show fmtS (h,q)=wrd h++32 :: fmtP q from if_pos hc,List.length_append,List.length_cons]
  have:=fmtP_len hc.2
  have:=wrd_len h
  omega
 ·rw [show fmtS (h,q)=[] from if_neg hc]; simp
noncomputable def linesM (l:List tStep.den):Nat->List UInt8
 | 0=>[]
 | k+1=>linesM l k++(fmtS (nth (t:=tStep) l k)++[10])
theorem linesM_len (l:List tStep.den):∀ k,(linesM l k).length<=2201 * k
 | 0=>by simp [linesM]
 | k+1=>by
  have:=linesM_len l k
  have:=fmtS_len (nth (t:=tStep) l k)
  simp only [linesM,List.length_append,List.length_cons,List.length_nil]; omega
open Classical in
noncomputable def fmtM (l:List tStep.den):List UInt8:=if 60 < l.length then [] else if ∃ i,i < l.length/\fmtS (nth (t:=tStep) l i)=[] then [] else linesM l l.length
theorem formatMotionS_fn (l:List tStep.den):Fn Tryz.prog 21 [⟨.slice tStep,l⟩] false [⟨.str,bs (fmtM l)⟩]:=by
 refine fe Tryz.func21 Tryz.ntmps21 Tryz.results21 fun hwf=>?_
 try simp (maxSteps:=9^9) only[go_sem]
 refine CondW_dec (fun hc=>?_) (fun hc=>?_)
 ·rw [show fmtM l=[] from if_pos (by omega)]
  try simp (maxSteps:=9^9) only[go_sem]
 ·have e0:¬ 60 < l.length:=by omega
  try simp (maxSteps:=9^9) only[go_sem]
  refine LoopG.intro _ _ _ (fun k:Nat=>⟨[(0,.sl tStep l),(3,.sc (.string (bs (linesM l k)))),(10,.sl tStep l),(11,.sc (.int .i64 l.length)),(12,.sc (.int .i64 k))],[]⟩) (fun k=>k<=l.length/\∀ i,i < k->fmtS (nth (t:=tStep) l i) ≠ []) (fun k=>l.length - k) 0 ?_ ⟨Nat.zero_le _,fun i h=>by omega⟩ ?_
  ·exact WK
  ·rintro k ⟨h1,h2⟩
   have hl:=linesM_len l k
   have hs:=fmtS_len (nth (t:=tStep) l k)
   try simp (maxSteps:=9^9) only[go_sem]
   refine CondW_dec (fun h4=>?_) (fun h4=>?_)
   ·try simp (maxSteps:=9^9) only[go_sem]
    repeat refine AI ?_
    refine cw (formatStepS_at (nth (t:=tStep) l k)) ?_
    try simp (maxSteps:=9^9) only[go_sem]
    refine CondW_dec (fun h5=>?_) (fun h5=>?_)
    ·rw [show fmtM l=[] from (if_neg e0).trans (if_pos ⟨k,by omega,h5⟩)]
     try simp (maxSteps:=9^9) only[go_sem]
    ·try simp (maxSteps:=9^9) only[go_sem]
     refine ⟨ml (by omega),ml (by omega),by constructor<;>omega,LoopK.mk (k+1) ?_ ⟨by omega,fun i hi=>by
      by_cases he:i=k
      ·rw [he]; exact h5
      ·exact h2 i (by omega)⟩ (by omega)⟩
     rw [linesM,<-List.append_assoc]
     exact WK
   ·have hk:k=l.length:=by omega
    subst hk
    rw [show fmtM l=linesM l l.length from (if_neg e0).trans (if_neg fun ⟨i,hi,e⟩=>h2 i hi e)]
    try simp (maxSteps:=9^9) only[go_sem]
theorem steps_rep {w:World} {v:Value} {l:List tStep.den} {fp:List Nat} (h:DRep w v ⟨.slice tStep,l⟩ fp):∃ ad c,v=.slice ad l.length c/\l.length<=c/\c<=maxLen/\(l.length=0\/∃ b off,ad=some ⟨b,off,none⟩/\b < w.heap.size/\∀ i,i < l.length->∃ cs f,tStep.rp.rep w cs (nth (t:=tStep) l i) f/\∀ j u,cs[j]? = some u->w.cell? ⟨b,off+i * 7+j,none⟩=some u):=by
 obtain ⟨cs,hp,ad,c,e1,h1,h2,h3⟩:=h
 have hv:cs=[v]:=by
  rcases hp with ⟨h,_⟩|⟨_,h⟩
  ·cases h
  ·exact h
 rw [hv] at e1
 injection e1 with e1
 refine ⟨ad,c,e1,h1,h2,?_⟩
 rcases h3 with ⟨rfl,_⟩|⟨b,off,fps,hne,hb,_,hel⟩
 ·exact .inl rfl
 ·refine .inr ⟨b,off,hb,?_,fun i hi=>?_⟩
  ·obtain ⟨f,cs,_,hcs,hc⟩:=hel.2 0 _ (List.getElem?_eq_getElem (List.length_pos_iff.2 hne))
   have hl:=tStep.rp.len hcs
   exact World.block_lt_of_cell? _ _ (hc 0 _ (List.getElem?_eq_getElem (by rw [hl]; decide)))
  ·obtain ⟨f,cs,_,hcs,hc⟩:=hel.2 i _ (List.getElem?_eq_getElem hi)
   rw [nth_lt hi]
   exact ⟨cs,f,hcs,hc⟩
set_option maxHeartbeats 8000000 in
theorem formatMotion_fn (l:List tStep.den):Fn Tryz.prog 23 [⟨.slice tStep,l⟩] false [⟨.str,bs (fmtM l)⟩]:=by
 refine ⟨enters_of Tryz.func23 (by kernel_rfl) rfl,fun w vs S hg ha=>?_⟩
 match vs,ha with
 | [v],⟨⟨fp,hd,_⟩,_⟩ =>
  obtain ⟨ad,c,rfl,hc1,hc2,hcell⟩:=steps_rep hd
  clear hd
  by_cases h60:60 < l.length
  ·have e0:fmtM l=[]:=if_pos h60
   rw [e0]
   have hz:(60:Int) < (l.length:Int):=by omega
   go_enter Tryz.func23,Tryz.ntmps23
   go_wp2
   go_ret
   exact ⟨Below.refl _ _,_,rfl,res_str (s:=bs []) (ml (by decide))⟩
  ·have hz:¬ (60:Int) < (l.length:Int):=by omega
   have hb0:=IsB.new w
   have bl0:Below w.heap.size w (w.alloc (.cells #[.pointer none,.slice none 0 0] 86)):=(Below.refl _ w).alloc (Nat.le_refl _) _
   go_enter Tryz.func23,Tryz.ntmps23
   go_wp2
   go_loopw [12] (fun iv wr=>∃ (k:Nat),iv=.int .i64 (k:Int)/\k<=l.length/\IsB w.heap.size (linesM l k) wr/\Below w.heap.size w wr/\∀ i,i < k->fmtS (nth (t:=tStep) l i) ≠ []) (fun iv _=>(l.length - Lib.intOf iv).toNat)
   case atStart=>exact ⟨0,rfl,Nat.zero_le _,hb0,bl0,fun i h=>by omega⟩
   case round =>
    obtain ⟨k,rfl,hk,hIB,hbl,hne⟩:=hrel
    by_cases hkl:k=l.length
    ·subst hkl
     go_wp2_with (go_at_call 56; refine (st_run hIB).mono ?_)
     rintro e w3 ⟨rfl,hb3⟩
     have e0:fmtM l=linesM l l.length:=(if_neg h60).trans (if_neg fun ⟨i,hi,e⟩=>hne i hi e)
     have hl:=linesM_len l l.length
     go_wp2
     go_ret
     rw [e0]
     exact ⟨hbl.trans hb3,_,rfl,res_str (s:=bs (linesM l l.length)) (by rw [bs_size]; exact ml (by omega))⟩
    ·rcases hcell with h0|⟨b,off,rfl,hB,hel⟩
     ·omega
     obtain ⟨cs,f,hrep,hc⟩:=hel k (by omega)
     obtain ⟨c0,c1,c2,c3,c4,c5,c6,rfl⟩:=list7 (tStep.rp.len hrep)
     have o0:=tStep.rp.one hrep c0 (by simp)
     have o1:=tStep.rp.one hrep c1 (by simp)
     have o2:=tStep.rp.one hrep c2 (by simp)
     have o3:=tStep.rp.one hrep c3 (by simp)
     have o4:=tStep.rp.one hrep c4 (by simp)
     have o5:=tStep.rp.one hrep c5 (by simp)
     have o6:=tStep.rp.one hrep c6 (by simp)
     have g0:wr.cell? ⟨b,off+k * 7,none⟩=some c0:=(hbl.cell (p:=⟨b,_,none⟩) hB).trans (hc 0 _ rfl)
     have g1:wr.cell? ⟨b,off+k * 7+1,none⟩=some c1:=(hbl.cell (p:=⟨b,_,none⟩) hB).trans (hc 1 _ rfl)
     have g2:wr.cell? ⟨b,off+k * 7+2,none⟩=some c2:=(hbl.cell (p:=⟨b,_,none⟩) hB).trans (hc 2 _ rfl)
     have g3:wr.cell? ⟨b,off+k * 7+3,none⟩=some c3:=(hbl.cell (p:=⟨b,_,none⟩) hB).trans (hc 3 _ rfl)
     have g4:wr.cell? ⟨b,off+k * 7+4,none⟩=some c4:=(hbl.cell (p:=⟨b,_,none⟩) hB).trans (hc 4 _ rfl)
     have g5:wr.cell? ⟨b,off+k * 7+5,none⟩=some c5:=(hbl.cell (p:=⟨b,_,none⟩) hB).trans (hc 5 _ rfl)
     have g6:wr.cell? ⟨b,off+k * 7+6,none⟩=some c6:=(hbl.cell (p:=⟨b,_,none⟩) hB).trans (hc 6 _ rfl)
     have hk0:(0:Int)<=(k:Int):=by omega
     have hkn:(k:Int) < (l.length:Int):=by omega
     clear hc hel
     have ba:Below wr.heap.size wr (wr.alloc (.cells #[c0,c1,c2,c3,c4,c5,c6] 48)):=(Below.refl _ wr).alloc (Nat.le_refl _) _
     have bl1:=hbl.trans (ba.mono hbl.size)
     have hI1:=hIB.up ba
     have hrep1:=tStep.rp.frame hrep (w':=wr.alloc (.cells #[c0,c1,c2,c3,c4,c5,c6] 48)) (fun b hb=>bl1.block b (tStep.rp.lt hrep b hb))
     have hll:=linesM_len l k
     have hls:=fmtS_len (nth (t:=tStep) l k)
     go_wp2_with (go_at_call 18; refine (Fn.str (vs:=[.agg #[c0,c1,c2,c3,c4,c5,c6]]) (formatStep_at (nth (t:=tStep) l k)) ⟨Arg.agg (t:=tStep) (cs:=[c0,c1,c2,c3,c4,c5,c6]) rfl ⟨f,hrep1⟩,trivial⟩ (hg.up bl1)).mono ?_)
     rintro e w3 ⟨rfl,hb3⟩
     have bl3:=bl1.trans (hb3.mono bl1.size)
     have hI3:=hI1.up hb3
     have hem:fmtS (nth (t:=tStep) l k)=[]->fmtM l=[]:=fun h5=>(if_neg h60).trans (if_pos ⟨k,by omega,h5⟩)
     generalize hT:fmtS (nth (t:=tStep) l k)=T at hls hem ⊢
     clear g0 g1 g2 g3 g4 g5 g6 o0 o1 o2 o3 o4 o5 o6 hrep hrep1
     by_cases h5:T=[]
     ·subst h5
      have he0:=hem rfl
      clear hem
      have hid:Hid (fmtM l=[]):=he0
      clear he0
      go_wp2
      go_ret
      rw [hid.out]
      exact ⟨bl3,_,rfl,res_str (s:=bs []) (ml (by decide))⟩
     ·go_wp2_with (go_at_call 55; refine (wr_run hI3 (T++[10]) (by rw [List.length_append]; simp only [List.length_cons,List.length_nil]; omega)).mono ?_)
      rintro e w5 ⟨rfl,hB5,hb5⟩
      have bl5:=bl3.trans hb5
      go_wp2
      refine ⟨⟨k+1,by simp only [Int.natCast_add,Int.cast_ofNat_Int],by omega,by rw [linesM,hT]; exact hB5,bl5,fun i hi=>?_⟩,by simp only [Lib.intOf_int]; omega⟩
      by_cases he:i=k
      ·rw [he,hT]; exact h5
      ·exact hne i (by omega)
set_option maxHeartbeats 8000000 in
theorem lawFormatMotion_fn (x0:DStepS):Fn Tryz.prog 5 [⟨.slice DW.tStep,x0⟩] false [⟨.bool,true⟩]:=by
 refine fe Tryz.func5 Tryz.ntmps5 Tryz.results5 fun hwf=>?_
 try simp (maxSteps:=9^9) only[go_sem]
 repeat refine AI ?_
 refine cw (szStepS_fn x0 1048576 (by omega) (by omega)) ?_
 try simp (maxSteps:=9^9) only[go_sem]
 repeat refine AI ?_
 have hr0:=szr_lo 1048576 ((x0.length+Go.Proofs.YtaeckjmkjhffnaaGreatDoor.tStepS x0)) (by omega)
 refine CondW_dec (fun hlt=>?_) (fun hge0=>?_)
 ·try simp (maxSteps:=9^9) only[go_sem]
 have hge0':0<=szr 1048576 ((x0.length+Go.Proofs.YtaeckjmkjhffnaaGreatDoor.tStepS x0)):=by omega
 have hs0:=(szr_ok hge0').1
 have hle0:(x0.length+Go.Proofs.YtaeckjmkjhffnaaGreatDoor.tStepS x0)<=1048576:=by omega
 clear hr0 hs0 hge0 hge0'
 try simp (maxSteps:=9^9) only[go_sem]
 repeat refine AI ?_
 refine cw (toStepS_fn x0 hle0) ?_
 try simp (maxSteps:=9^9) only[go_sem]
 repeat refine AI ?_
 refine cw (formatMotionS_fn x0) ?_
 try simp (maxSteps:=9^9) only[go_sem]
 repeat refine AI ?_
 refine CallW.mx (toStepS_fn x0 hle0) ?_
 try simp (maxSteps:=9^9) only[go_sem]
 repeat refine AI ?_
 refine CallW.mx (formatMotion_fn x0) ?_
 try simp (maxSteps:=9^9) only[go_sem]
 repeat refine AI ?_
 refine cw (toStepS_fn x0 hle0) ?_
 try simp (maxSteps:=9^9) only[go_sem]
 repeat refine AI ?_
 refine CallW.mx (eqStepS_fn x0 x0) ?_
 try simp (maxSteps:=9^9) only[go_sem]
 all_goals repeat refine AI ?_
 all_goals first|kernel_rfl|omega|rfl
end Go.Proofs.YtaeckjmkjhffnaaGreatDoor.DW
namespace Go.Proofs.YtaeckjmkjhffnaaGreatDoor
open Go.RowKit DW
theorem law_FnExactFormatMotion (a0:Value) (x0:DStepS) (w:World) (hx0:Has RStepS w [a0] x0) (hg:DW.Gw Tryz.prog w) :
  Calls Tryz.prog 5 #[a0] w (Post fun r w'=>r=.bool true/\Below w.heap.size w w') :=
 (DW.lawFormatMotion_fn x0).bool (vs:=[a0]) ⟨Arg.sl hx0,trivial⟩ hg
end Go.Proofs.YtaeckjmkjhffnaaGreatDoor

namespace Go.Proofs.YtaeckjmkjhffnaaGreatDoor.DW
open Go.RowKit
theorem gw_of_laid {W:World} {a b:String × DataW Unit} {rest:List (String × DataW Unit)} (h:laidMet Tryz.prog (a :: b :: ("internal/strconv.uint64pow10",Rows.laid_internal_strconv_uint64pow10) :: rest) W):Gw Tryz.prog W:=by
 obtain ⟨ps,⟨g0,t0,cs0,f0,p0,q0,hg0,ht0,hv0,hd0,⟨g1,t1,cs1,f1,p1,q1,hg1,ht1,hv1,hd1,⟨g2,t2,cs2,f2,p2,q2,hg2,ht2,hv2,hd2,_,_⟩,_⟩,_⟩,_⟩:=h
 have hgn:Tryz.prog.globalNamed tabName=some 3:=by kernel_rfl
 have hty:(Tryz.prog.globals[3]?).map (·.type)=some 205:=by kernel_rfl
 obtain rfl:=Option.some.inj (hgn.symm.trans hg2)
 obtain rfl:=Option.some.inj (hty.symm.trans ht2)
 have hd3:DataW.trod _ Tryz.prog W _ _ _ f2 205 cs2.toList=some (Lib.tabData .u64 Lib.pow10Tab,p2):=hd2
 have hcs:=Lib.cells_of_tab Tryz.underlying205 Tryz.underlying191 (by kernel_rfl) (by kernel_rfl) hd3
 intro g hg
 obtain rfl:=Option.some.inj (hgn.symm.trans hg)
 refine ⟨?_,?_⟩
 ·unfold World.var? at hv2
  rw [hgn] at hv2
  simp only [Option.bind_some] at hv2
  by_cases hlt:3 < W.heap.size
  ·exact hlt
  ·rw [Array.getElem?_eq_none (by omega)] at hv2; cases hv2
 ·unfold Lib.TabIs
  rw [hv2,<-hcs]
end Go.Proofs.YtaeckjmkjhffnaaGreatDoor.DW
