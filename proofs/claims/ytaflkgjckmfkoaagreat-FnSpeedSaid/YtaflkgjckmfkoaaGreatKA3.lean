/-
  Texts of a proof, one behind another: Dw3, Dw4, Dw5, Flt, FltD, Dw6, Dw7, Dw8, Z, Dw9, Dw10, Dw11, Dw12, Dw13, Dw16, Dw18, Dw21, Dw14, Dw15, Cn, CnO, Dw22, Dw17, Dw28, Dw29, Dw30, Dw31, Dw32, Dw33, Dw34.
-/
import Derived.Laws.FloatArith
import Derived.Test.YtaflkgjckmfkoaaGreatKA2
set_option linter.all false
namespace Go.Proofs.YtaflkgjckmfkoaaGreat.DW
open Go.RowKit
attribute [go_sem] ni_natL natL_len_nl
theorem app1 {l:List Int} {x y:Int} (h:x=y):l++[x]=l++[y]:=by rw [h]
set_option maxRecDepth 100000 in
theorem natAdd_fn (a b:Nat) (ha:nl a<=100000) (hb:nl b<=100000):Fn Tryz.prog 71 [⟨tInts,natL a⟩,⟨tInts,natL b⟩] true [⟨tInts,natL (a+b)⟩]:=by
 refine fn_enter tabOK mixes Tryz.func71 rfl rfl _ Tryz.ntmps71 _ Tryz.results71 (by simp) fun hwf=>?_
 try simp (maxSteps:=9^9) only[go_sem]
 refine ⟨by constructor<;>omega,by omega,by omega,?_⟩
 refine LoopG.intro _ _ _ (fun i:Nat=>⟨[(0,.sl .int (natL a)),(1,.sl .int (natL b)),(5,.row 0 0),(6,.sc (.int .i64 (cry a b i:Nat))),(7,.sc (.int .i64 i))],[(0,.row 3 .int 0 true (dig (a+b) i))]⟩) (fun i=>i<=100001/\(i=0\/pw (i - 1)<=a+b)) (fun i=>100002 - i) 0 ?_ ⟨by omega,.inl rfl⟩ ?_
 ·refine Wk.mk [] ?_
  try simp (maxSteps:=9^9) only[go_sem]
  try (and_intros<;>first|rfl|omega|exact ⟨_,rfl⟩)
  all_goals (exact ⟨⟨by rw [cry_zero]; rfl,rfl⟩,rfl⟩)
 ·rintro i ⟨h1,h2⟩
  have hcl:=cry_le a b i
  by_cases hc:(i:Int) < nl a\/(i:Int) < nl b\/(0:Int) < (cry a b i:Nat)
  ·have hbig:pw i<=a+b:=cry_big (by omega)
   have hi:i<=100000:=by
    have:=nl_add a b
    have:=lt_nl_iff.2 hbig
    omega
   have hda:=dg_lt a i
   have hdb:=dg_lt b i
   have hp:(i:Int) < nl a\/(¬ (i:Int) < nl a/\(i:Int) < nl b)\/(¬ (i:Int) < nl a/\¬ (i:Int) < nl b/\(0:Int) < (cry a b i:Nat)):=by omega
   rcases hp with hA|⟨hA,hB⟩|⟨hA,hB,hC⟩
   all_goals first|simp (maxSteps:=9^9) only[go_sem,hA,hB,hC]|simp (maxSteps:=9^9) only[go_sem,hA,hB]|simp (maxSteps:=9^9) only[go_sem,hA]
   all_goals
    repeat refine And.intro (by first|omega|(constructor<;>omega)|kernel_rfl) ?_
    refine CallW.mk (limb_fn (natL a) i (by omega)) ?_
    try simp (maxSteps:=9^9) only[go_sem]
    repeat refine And.intro (by first|omega|(constructor<;>omega)|kernel_rfl) ?_
    refine CallW.mk (limb_fn (natL b) i (by omega)) ?_
    try simp (maxSteps:=9^9) only[go_sem]
    refine ⟨by constructor<;>omega,by constructor<;>omega,RemW.pos (by omega) (by decide) ?_⟩
    try simp (maxSteps:=9^9) only[go_sem,dig_len]
    refine ⟨by omega,by omega,QuoW.pos (by omega) (by decide) ?_⟩
    try simp (maxSteps:=9^9) only[go_sem]
    refine ⟨by constructor<;>omega,LoopK.mk (i+1) ?_ ⟨by omega,.inr hbig⟩ (by omega)⟩
    refine Wk.mk [] ?_
    try simp (maxSteps:=9^9) only[go_sem]
    try (and_intros<;>first|rfl|omega|exact ⟨_,rfl⟩)
    all_goals (rw [dig_succ,<-cry_dg a b i,<-cry_succ a b i]; exact ⟨⟨by omega,rfl⟩,app1 (by omega)⟩)
  ·have hA:¬ (i:Int) < nl a:=by omega
   have hB:¬ (i:Int) < nl b:=by omega
   have hC:¬ (0:Int) < (cry a b i:Nat):=by omega
   try simp (maxSteps:=9^9) only[go_sem,hA,hB,hC]
   exact dig_eq (cry_end (by omega) (by omega) (by omega)) (by omega)
set_option maxRecDepth 100000 in
theorem l02Add_fn (a b:Nat) (ha:nl a<=100000) (hb:nl b<=100000):Fn Tryz.prog 165 [⟨tInts,natL a⟩,⟨tInts,natL b⟩] true [⟨tInts,natL (a+b)⟩]:=by
 refine fn_enter tabOK mixes Tryz.func165 rfl rfl _ Tryz.ntmps165 _ Tryz.results165 (by simp) fun hwf=>?_
 try simp (maxSteps:=9^9) only[go_sem]
 refine LoopG.intro _ _ _ (fun i:Nat=>⟨[(0,.sl .int (natL a)),(1,.sl .int (natL b)),(5,.row 0 0),(6,.sc (.int .i64 (cry a b i:Nat))),(7,.sc (.int .i64 i))],[(0,.row 3 .int 0 true (dig (a+b) i))]⟩) (fun i=>i<=100001/\(i=0\/pw (i - 1)<=a+b)) (fun i=>100002 - i) 0 ?_ ⟨by omega,.inl rfl⟩ ?_
 ·refine Wk.mk [] ?_
  try simp (maxSteps:=9^9) only[go_sem]
  try (and_intros<;>first|rfl|omega|exact ⟨_,rfl⟩)
  all_goals (exact ⟨⟨by rw [cry_zero]; rfl,rfl⟩,rfl⟩)
 ·rintro i ⟨h1,h2⟩
  have hcl:=cry_le a b i
  by_cases hc:(i:Int) < nl a\/(i:Int) < nl b\/(0:Int) < (cry a b i:Nat)
  ·have hbig:pw i<=a+b:=cry_big (by omega)
   have hi:i<=100000:=by
    have:=nl_add a b
    have:=lt_nl_iff.2 hbig
    omega
   have hda:=dg_lt a i
   have hdb:=dg_lt b i
   have hp:((i:Int) < nl a/\(i:Int) < nl b)\/((i:Int) < nl a/\¬ (i:Int) < nl b)\/(¬ (i:Int) < nl a/\(i:Int) < nl b)\/(¬ (i:Int) < nl a/\¬ (i:Int) < nl b/\(0:Int) < (cry a b i:Nat)):=by omega
   have za:¬ (i:Int) < nl a->dg a i=0:=fun h=>dg_of_lt (nl_iff.1 (by omega))
   have zb:¬ (i:Int) < nl b->dg b i=0:=fun h=>dg_of_lt (nl_iff.1 (by omega))
   rcases hp with ⟨hA,hB⟩|⟨hA,hB⟩|⟨hA,hB⟩|⟨hA,hB,hC⟩
   ·try simp (maxSteps:=9^9) only[go_sem,hA,hB]
    refine ⟨by omega,by constructor<;>omega,by omega,by constructor<;>omega,RemW.pos (by omega) (by decide) ?_⟩
    try simp (maxSteps:=9^9) only[go_sem,dig_len]
    refine ⟨by omega,by omega,QuoW.pos (by omega) (by decide) ?_⟩
    try simp (maxSteps:=9^9) only[go_sem]
    refine ⟨by constructor<;>omega,LoopK.mk (i+1) ?_ ⟨by omega,.inr hbig⟩ (by omega)⟩
    refine Wk.mk [] ?_
    try simp (maxSteps:=9^9) only[go_sem]
    try (and_intros<;>first|rfl|omega|exact ⟨_,rfl⟩)
    all_goals (rw [dig_succ,<-cry_dg a b i,<-cry_succ a b i]; exact ⟨⟨by omega,rfl⟩,app1 (by omega)⟩)
   ·have hz:=zb hB
    try simp (maxSteps:=9^9) only[go_sem,hA,hB]
    refine ⟨by omega,by constructor<;>omega,RemW.pos (by omega) (by decide) ?_⟩
    try simp (maxSteps:=9^9) only[go_sem,dig_len]
    refine ⟨by omega,by omega,QuoW.pos (by omega) (by decide) ?_⟩
    try simp (maxSteps:=9^9) only[go_sem]
    refine ⟨by constructor<;>omega,LoopK.mk (i+1) ?_ ⟨by omega,.inr hbig⟩ (by omega)⟩
    refine Wk.mk [] ?_
    try simp (maxSteps:=9^9) only[go_sem]
    try (and_intros<;>first|rfl|omega|exact ⟨_,rfl⟩)
    all_goals (rw [dig_succ,<-cry_dg a b i,<-cry_succ a b i]; exact ⟨⟨by omega,rfl⟩,app1 (by omega)⟩)
   ·have hz:=za hA
    try simp (maxSteps:=9^9) only[go_sem,hA,hB]
    refine ⟨by omega,by constructor<;>omega,RemW.pos (by omega) (by decide) ?_⟩
    try simp (maxSteps:=9^9) only[go_sem,dig_len]
    refine ⟨by omega,by omega,QuoW.pos (by omega) (by decide) ?_⟩
    try simp (maxSteps:=9^9) only[go_sem]
    refine ⟨by constructor<;>omega,LoopK.mk (i+1) ?_ ⟨by omega,.inr hbig⟩ (by omega)⟩
    refine Wk.mk [] ?_
    try simp (maxSteps:=9^9) only[go_sem]
    try (and_intros<;>first|rfl|omega|exact ⟨_,rfl⟩)
    all_goals (rw [dig_succ,<-cry_dg a b i,<-cry_succ a b i]; exact ⟨⟨by omega,rfl⟩,app1 (by omega)⟩)
   ·have hz:=za hA
    have hz2:=zb hB
    try simp (maxSteps:=9^9) only[go_sem,hA,hB,hC]
    refine RemW.pos (by omega) (by decide) ?_
    try simp (maxSteps:=9^9) only[go_sem,dig_len]
    refine ⟨by omega,by omega,QuoW.pos (by omega) (by decide) ?_⟩
    try simp (maxSteps:=9^9) only[go_sem]
    refine ⟨by constructor<;>omega,LoopK.mk (i+1) ?_ ⟨by omega,.inr hbig⟩ (by omega)⟩
    refine Wk.mk [] ?_
    try simp (maxSteps:=9^9) only[go_sem]
    try (and_intros<;>first|rfl|omega|exact ⟨_,rfl⟩)
    all_goals (rw [dig_succ,<-cry_dg a b i,<-cry_succ a b i]; exact ⟨⟨by omega,rfl⟩,app1 (by omega)⟩)
  ·have hA:¬ (i:Int) < nl a:=by omega
   have hB:¬ (i:Int) < nl b:=by omega
   have hC:¬ (0:Int) < (cry a b i:Nat):=by omega
   try simp (maxSteps:=9^9) only[go_sem,hA,hB,hC]
   exact dig_eq (cry_end (by omega) (by omega) (by omega)) (by omega)
end Go.Proofs.YtaflkgjckmfkoaaGreat.DW

namespace Go.Proofs.YtaflkgjckmfkoaaGreat.DW
open Go.RowKit
theorem natSub_fn' (b d:Nat) (ha:nl (b+d)<=100000):Fn Tryz.prog 115 [⟨tInts,natL (b+d)⟩,⟨tInts,natL b⟩] false [⟨tInts,natL d⟩]:=by
 refine fn_enter tabOK mixes Tryz.func115 rfl rfl _ Tryz.ntmps115 _ Tryz.results115 (by simp) fun hwf=>?_
 try simp (maxSteps:=9^9) only[go_sem]
 refine ⟨by omega,by omega,?_⟩
 refine LoopG.intro _ _ _ (fun i:Nat=>⟨[(0,.sl .int (natL (b+d))),(1,.sl .int (natL b)),(5,.row 0 0),(6,.sc (.int .i64 (cry b d i:Nat))),(13,.sc (.int .i64 (nl (b+d)))),(14,.sc (.int .i64 i))],[(0,.row 3 .int 0 true (dig d i))]⟩) (fun i=>i<=nl (b+d)) (fun i=>nl (b+d) - i) 0 ?_ (by omega) ?_
 ·refine Wk.mk [] ?_
  try simp (maxSteps:=9^9) only[go_sem]
  try (and_intros<;>first|rfl|omega|exact ⟨_,rfl⟩)
  all_goals (exact ⟨⟨by rw [cry_zero]; rfl,rfl⟩,rfl⟩)
 ·rintro i h1
  have hs:=sub_dg b d i
  have hc1:=cry_le b d i
  have hc2:=cry_le b d (i+1)
  have hd1:=dg_lt b i
  have hd2:=dg_lt d i
  have hd3:=dg_lt (b+d) i
  try simp (maxSteps:=9^9) only[go_sem]
  refine CondW_dec (fun hA=>?_) (fun hA=>?_)
  ·try simp (maxSteps:=9^9) only[go_sem,hA]
   refine ⟨by omega,?_⟩
   repeat refine And.intro (by first|omega|(constructor<;>omega)|kernel_rfl) ?_
   refine CallW.mk (limb_fn (natL b) i (by omega)) ?_
   try simp (maxSteps:=9^9) only[go_sem]
   refine ⟨by constructor<;>omega,by constructor<;>omega,by kernel_rfl,?_⟩
   refine CondW_dec (fun hB=>?_) (fun hB=>?_)
   ·try simp (maxSteps:=9^9) only[go_sem]
    refine ⟨by constructor<;>omega,?_⟩
    try simp (maxSteps:=9^9) only[go_sem,dig_len]
    refine ⟨by omega,by omega,by constructor<;>omega,LoopK.mk (i+1) ?_ (by omega) (by omega)⟩
    refine Wk.mk [] ?_
    try simp (maxSteps:=9^9) only[go_sem]
    try (and_intros<;>first|rfl|omega|exact ⟨_,rfl⟩)
    all_goals (rw [dig_succ]; exact ⟨⟨by omega,by omega⟩,app1 (by omega)⟩)
   ·try simp (maxSteps:=9^9) only[go_sem,dig_len]
    refine ⟨by omega,by omega,by constructor<;>omega,LoopK.mk (i+1) ?_ (by omega) (by omega)⟩
    refine Wk.mk [] ?_
    try simp (maxSteps:=9^9) only[go_sem]
    try (and_intros<;>first|rfl|omega|exact ⟨_,rfl⟩)
    all_goals (rw [dig_succ]; exact ⟨⟨by omega,by omega⟩,app1 (by omega)⟩)
  ·try simp (maxSteps:=9^9) only[go_sem,hA]
   repeat refine And.intro (by first|omega|(constructor<;>omega)|kernel_rfl) ?_
   refine CallW.mk (trimmed_fn (dig d i)) ?_
   try simp (maxSteps:=9^9) only[go_sem]
   exact trimL_dig (Nat.lt_of_le_of_lt (Nat.le_add_left d b) (nl_iff.1 (by omega)))
theorem natSub_fn (a b:Nat) (hab:b<=a) (ha:nl a<=100000):Fn Tryz.prog 115 [⟨tInts,natL a⟩,⟨tInts,natL b⟩] false [⟨tInts,natL (a - b)⟩]:=by
 obtain ⟨d,rfl⟩:=Nat.le.dest hab
 rw [Nat.add_sub_cancel_left]
 exact natSub_fn' b d ha
theorem l02Sub_fn' (b d:Nat) (ha:nl (b+d)<=100000):Fn Tryz.prog 167 [⟨tInts,natL (b+d)⟩,⟨tInts,natL b⟩] false [⟨tInts,natL d⟩]:=by
 refine fn_enter tabOK mixes Tryz.func167 rfl rfl _ Tryz.ntmps167 _ Tryz.results167 (by simp) fun hwf=>?_
 try simp (maxSteps:=9^9) only[go_sem]
 refine LoopG.intro _ _ _ (fun i:Nat=>⟨[(0,.sl .int (natL (b+d))),(1,.sl .int (natL b)),(5,.row 0 0),(6,.sc (.int .i64 (cry b d i:Nat))),(11,.sc (.int .i64 (nl (b+d)))),(12,.sc (.int .i64 i))],[(0,.row 3 .int 0 true (dig d i))]⟩) (fun i=>i<=nl (b+d)) (fun i=>nl (b+d) - i) 0 ?_ (by omega) ?_
 ·refine Wk.mk [] ?_
  try simp (maxSteps:=9^9) only[go_sem]
  try (and_intros<;>first|rfl|omega|exact ⟨_,rfl⟩)
  all_goals (exact ⟨⟨by rw [cry_zero]; rfl,rfl⟩,rfl⟩)
 ·rintro i h1
  have hs:=sub_dg b d i
  have hc1:=cry_le b d i
  have hc2:=cry_le b d (i+1)
  have hd1:=dg_lt b i
  have hd2:=dg_lt d i
  have hd3:=dg_lt (b+d) i
  try simp (maxSteps:=9^9) only[go_sem]
  refine CondW_dec (fun hA=>?_) (fun hA=>?_)
  ·try simp (maxSteps:=9^9) only[go_sem,hA]
   refine ⟨by omega,by constructor<;>omega,?_⟩
   refine CondW_dec (fun hZ=>?_) (fun hZ=>?_)
   ·try simp (maxSteps:=9^9) only[go_sem,hZ]
    refine ⟨by omega,by constructor<;>omega,?_⟩
    refine CondW_dec (fun hB=>?_) (fun hB=>?_)
    ·try simp (maxSteps:=9^9) only[go_sem]
     refine ⟨by constructor<;>omega,?_⟩
     try simp (maxSteps:=9^9) only[go_sem,dig_len]
     refine ⟨by omega,by omega,by constructor<;>omega,LoopK.mk (i+1) ?_ (by omega) (by omega)⟩
     refine Wk.mk [] ?_
     try simp (maxSteps:=9^9) only[go_sem]
     try (and_intros<;>first|rfl|omega|exact ⟨_,rfl⟩)
     all_goals (rw [dig_succ]; exact ⟨⟨by omega,by omega⟩,app1 (by omega)⟩)
    ·try simp (maxSteps:=9^9) only[go_sem,dig_len]
     refine ⟨by omega,by omega,by constructor<;>omega,LoopK.mk (i+1) ?_ (by omega) (by omega)⟩
     refine Wk.mk [] ?_
     try simp (maxSteps:=9^9) only[go_sem]
     try (and_intros<;>first|rfl|omega|exact ⟨_,rfl⟩)
     all_goals (rw [dig_succ]; exact ⟨⟨by omega,by omega⟩,app1 (by omega)⟩)
   ·have hz:dg b i=0:=dg_of_lt (nl_iff.1 (by omega))
    try simp (maxSteps:=9^9) only[go_sem,hZ]
    refine CondW_dec (fun hB=>?_) (fun hB=>?_)
    ·try simp (maxSteps:=9^9) only[go_sem]
     refine ⟨by constructor<;>omega,?_⟩
     try simp (maxSteps:=9^9) only[go_sem,dig_len]
     refine ⟨by omega,by omega,by constructor<;>omega,LoopK.mk (i+1) ?_ (by omega) (by omega)⟩
     refine Wk.mk [] ?_
     try simp (maxSteps:=9^9) only[go_sem]
     try (and_intros<;>first|rfl|omega|exact ⟨_,rfl⟩)
     all_goals (rw [dig_succ]; exact ⟨⟨by omega,by omega⟩,app1 (by omega)⟩)
    ·try simp (maxSteps:=9^9) only[go_sem,dig_len]
     refine ⟨by omega,by omega,by constructor<;>omega,LoopK.mk (i+1) ?_ (by omega) (by omega)⟩
     refine Wk.mk [] ?_
     try simp (maxSteps:=9^9) only[go_sem]
     try (and_intros<;>first|rfl|omega|exact ⟨_,rfl⟩)
     all_goals (rw [dig_succ]; exact ⟨⟨by omega,by omega⟩,app1 (by omega)⟩)
  ·try simp (maxSteps:=9^9) only[go_sem,hA]
   repeat refine And.intro (by first|omega|(constructor<;>omega)|kernel_rfl) ?_
   refine CallW.mk (l02Trim_fn (dig d i)) ?_
   try simp (maxSteps:=9^9) only[go_sem]
   exact trimL_dig (Nat.lt_of_le_of_lt (Nat.le_add_left d b) (nl_iff.1 (by omega)))
theorem l02Sub_fn (a b:Nat) (hab:b<=a) (ha:nl a<=100000):Fn Tryz.prog 167 [⟨tInts,natL a⟩,⟨tInts,natL b⟩] false [⟨tInts,natL (a - b)⟩]:=by
 obtain ⟨d,rfl⟩:=Nat.le.dest hab
 rw [Nat.add_sub_cancel_left]
 exact l02Sub_fn' b d ha
end Go.Proofs.YtaflkgjckmfkoaaGreat.DW

namespace Go.Proofs.YtaflkgjckmfkoaaGreat.DW
open Go.RowKit
theorem toNat_mul_dg (a b i k:Nat):((dg a i:Int) * (dg b k:Int)).toNat=dg a i * dg b k:=by rw [<-Int.natCast_mul,Int.toNat_natCast]
theorem toNat_addc (i k:Nat):((i:Int)+(k:Int)).toNat=i+k:=by omega
attribute [go_sem] toNat_addc ne_eq
theorem natMul_fn (a b:Nat) (ha:nl a<=100000) (hb:nl b<=100000):Fn Tryz.prog 67 [⟨tInts,natL a⟩,⟨tInts,natL b⟩] false [⟨tInts,natL (a * b)⟩]:=by
 refine fn_enter tabOK mixes Tryz.func67 rfl rfl _ Tryz.ntmps67 _ Tryz.results67 (by simp) fun hwf=>?_
 try simp (maxSteps:=9^9) only[go_sem]
 repeat refine And.intro (by first|omega|(constructor<;>omega)|kernel_rfl) ?_
 refine LoopG.intro _ _ _ (fun x:Nat × List Int=>⟨[(0,.sl .int (natL a)),(1,.sl .int (natL b)),(5,.row 0 0),(17,.sl .int (natL a)),(18,.sc (.int .i64 (nl a))),(19,.sc (.int .i64 x.1))],[(0,.row 3 .int 0 true x.2)]⟩) (fun x=>x.1<=nl a/\lims x.2/\x.2.length=nl a+nl b/\val x.2=a % pw x.1 * b) (fun x=>nl a - x.1) (0,List.replicate (nl a+nl b) 0) ?_ ⟨by simp,lims_rep _,by simp,by simp [val_rep,pw_zero,Nat.mod_one]⟩ ?_
 ·refine Wk.mk [] ?_
  try simp (maxSteps:=9^9) only[go_sem]
  try (and_intros<;>first|rfl|omega|exact ⟨_,rfl⟩)
 ·rintro ⟨i,out⟩ ⟨h1,h2,h3,h4⟩
  simp only at h1 h2 h3 h4
  have hd1:=dg_lt a i
  try simp (maxSteps:=9^9) only[go_sem]
  refine CondW_dec (fun hA=>?_) (fun hA=>?_)
  ·try simp (maxSteps:=9^9) only[go_sem,hA]
   repeat refine And.intro (by first|omega|(constructor<;>omega)|kernel_rfl) ?_
   refine LoopG.intro _ _ _ (fun x:Nat × Int × List Int=>⟨[(0,.sl .int (natL a)),(1,.sl .int (natL b)),(5,.row 0 0),(6,.sc (.int .i64 i)),(7,.sc (.int .i64 (dg a i))),(8,.sc (.int .i64 x.2.1)),(9,.sc (.int .i64 x.1)),(17,.sl .int (natL a)),(18,.sc (.int .i64 (nl a))),(19,.sc (.int .i64 i))],[(0,.row 3 .int 0 true x.2.2)]⟩) (fun x=>x.1<=nl b+1/\0<=x.2.1/\x.2.1<=999999999/\lims x.2.2/\x.2.2.length=nl a+nl b/\val x.2.2+pw (i+x.1) * x.2.1.toNat=a % pw i * b+pw i * (dg a i * (b % pw x.1))) (fun x=>nl b+1 - x.1) (0,0,out) ?_ ⟨by simp,by simp,by simp,h2,h3,by simp [h4,pw_zero,Nat.mod_one]⟩ ?_
   ·refine Wk.mk [] ?_
    try simp (maxSteps:=9^9) only[go_sem]
    try (and_intros<;>first|rfl|omega|exact ⟨_,rfl⟩)
   ·rintro ⟨k,c,ou⟩ ⟨g1,g2,g3,g4,g5,g6⟩
    simp only at g1 g2 g3 g4 g5 g6
    by_cases hc:(k:Int) < nl b\/0 < c
    ·have hk:k<=nl b:=by
      rcases hc with hc|hc
      ·omega
      ·have e1:=mul_rowLt a b i k
       rw [<-g6] at e1
       have e2:pw (i+k) * 1<=pw (i+k) * c.toNat:=Nat.mul_le_mul_left _ (by omega)
       have e3:pw (i+k) < pw (i+1+nl b):=by omega
       have:=pw_lt_iff.1 e3
       omega
     have hd2:=dg_lt b k
     obtain ⟨m1,m2,m3,m4⟩:=mul_step (j:=i+k) (x:=dg a i) (y:=dg b k) (c:=c) (n:=ni ou (i+k)+dg a i * dg b k+c) g4 (by omega) (by omega) (by omega) (by omega) (by omega) g2 g3 rfl g6
     rw [toNat_mul_dg,mul_row] at m4
     have hni:=lims_ni g4 (i+k)
     have hmm:0<=(dg a i:Int) * (dg b k:Int):=Int.mul_nonneg (by omega) (by omega)
     generalize hmg:(dg a i:Int) * (dg b k:Int)=mm at *
     have hp:(k:Int) < nl b\/(¬ (k:Int) < nl b/\0 < c):=by omega
     rcases hp with hB|⟨hB,hC⟩
     all_goals first|simp (maxSteps:=9^9) only[go_sem,hB,hC]|simp (maxSteps:=9^9) only[go_sem,hB]
     all_goals
      repeat refine And.intro (by first|omega|(constructor<;>omega)|kernel_rfl) ?_
      refine CallW.mk (limb_fn (natL b) k (by omega)) ?_
      try simp (maxSteps:=9^9) only[go_sem]
      rw [hmg]
      repeat refine And.intro (by first|omega|(constructor<;>omega)|kernel_rfl) ?_
      refine RemW.pos (by omega) (by decide) ?_
      try simp (maxSteps:=9^9) only[go_sem]
      repeat refine And.intro (by first|omega|(constructor<;>omega)|kernel_rfl) ?_
      refine QuoW.pos (by omega) (by decide) ?_
      try simp (maxSteps:=9^9) only[go_sem]
      refine ⟨by constructor<;>omega,LoopK.mk (k+1,(ni ou (i+k)+mm+c) / 1000000000,ou.set (i+k) ((ni ou (i+k)+mm+c) % 1000000000)) ?_ ⟨by simp only; omega,by simp only; omega,by simp only; omega,m3,by simp [g5],m4⟩ (by simp only; omega)⟩
      refine Wk.mk [] ?_
      try simp (maxSteps:=9^9) only[go_sem]
      try (and_intros<;>first|rfl|omega|exact ⟨_,rfl⟩)
    ·have hB:¬ (k:Int) < nl b:=by omega
     have hC:¬ 0 < c:=by omega
     have hc0:c=0:=by omega
     try simp (maxSteps:=9^9) only[go_sem,hB,hC]
     subst hc0
     rw [mul_rowEnd (by omega)] at g6
     refine ⟨by constructor<;>omega,LoopK.mk (i+1,ou) ?_ ⟨by simp only; omega,g4,g5,by simpa using g6⟩ (by simp only; omega)⟩
     refine Wk.mk [] ?_
     try simp (maxSteps:=9^9) only[go_sem]
     try (and_intros<;>first|rfl|omega|exact ⟨_,rfl⟩)
  ·try simp (maxSteps:=9^9) only[go_sem,hA]
   repeat refine And.intro (by first|omega|(constructor<;>omega)|kernel_rfl) ?_
   refine CallW.mk (trimmed_fn out) ?_
   try simp (maxSteps:=9^9) only[go_sem]
   rw [trimL_val h2,h4,Nat.mod_eq_of_lt (nl_iff.1 (by omega))]
theorem l02Mul_fn (a b:Nat) (ha:nl a<=100000) (hb:nl b<=100000):Fn Tryz.prog 143 [⟨tInts,natL a⟩,⟨tInts,natL b⟩] false [⟨tInts,natL (a * b)⟩]:=by
 by_cases hz:a=0\/b=0
 ·have hp:nl a=0\/(nl a ≠ 0/\nl b=0):=by
   rcases hz with hz|hz
   ·exact .inl (nl_eq_zero.2 hz)
   ·by_cases h0:nl a=0
    ·exact .inl h0
    ·exact .inr ⟨h0,nl_eq_zero.2 hz⟩
  have hr:natL (a * b)=[]:=by rcases hz with rfl|rfl<;>simp [natL_zero]
  rw [hr]
  refine fn_enter tabOK mixes Tryz.func143 rfl rfl _ Tryz.ntmps143 _ Tryz.results143 (by simp) fun hwf=>?_
  rcases hp with h1|⟨h1,h2⟩
  ·have hA:(nl a:Int)=0:=by omega
   try simp (maxSteps:=9^9) only[go_sem,hA]
  ·have hA:¬ (nl a:Int)=0:=by omega
   have hB:(nl b:Int)=0:=by omega
   try simp (maxSteps:=9^9) only[go_sem,hA,hB]
 have hA:¬ (nl a:Int)=0:=fun h=>hz (.inl (nl_eq_zero.1 (by omega)))
 have hB:¬ (nl b:Int)=0:=fun h=>hz (.inr (nl_eq_zero.1 (by omega)))
 refine fn_enter tabOK mixes Tryz.func143 rfl rfl _ Tryz.ntmps143 _ Tryz.results143 (by simp) fun hwf=>?_
 try simp (maxSteps:=9^9) only[go_sem,hA,hB]
 repeat refine And.intro (by first|omega|(constructor<;>omega)|kernel_rfl) ?_
 refine LoopG.intro _ _ _ (fun x:Nat × List Int=>⟨[(0,.sl .int (natL a)),(1,.sl .int (natL b)),(5,.row 0 0),(26,.sl .int (natL a)),(27,.sc (.int .i64 (nl a))),(28,.sc (.int .i64 x.1))],[(0,.row 3 .int 0 true x.2)]⟩) (fun x=>x.1<=nl a/\lims x.2/\x.2.length=nl a+nl b/\val x.2=a % pw x.1 * b) (fun x=>nl a - x.1) (0,List.replicate (nl a+nl b) 0) ?_ ⟨by simp,lims_rep _,by simp,by simp [val_rep,pw_zero,Nat.mod_one]⟩ ?_
 ·refine Wk.mk [] ?_
  try simp (maxSteps:=9^9) only[go_sem]
  try (and_intros<;>first|rfl|omega|exact ⟨_,rfl⟩)
 ·rintro ⟨i,out⟩ ⟨h1,h2,h3,h4⟩
  simp only at h1 h2 h3 h4
  have hd1:=dg_lt a i
  try simp (maxSteps:=9^9) only[go_sem]
  refine CondW_dec (fun hC=>?_) (fun hC=>?_)
  ·try simp (maxSteps:=9^9) only[go_sem,hC]
   repeat refine And.intro (by first|omega|(constructor<;>omega)|kernel_rfl) ?_
   have hv:val out < pw (i+nl b):=by rw [h4]; exact pw_mul_lt (Nat.mod_lt _ (pw_pos i)) (lt_nl b)
   refine LoopG.intro _ _ _ (fun x:Nat × Int × List Int=>⟨[(0,.sl .int (natL a)),(1,.sl .int (natL b)),(5,.row 0 0),(6,.sc (.int .i64 i)),(7,.sc (.int .i64 (dg a i))),(8,.sc (.int .i64 x.2.1)),(26,.sl .int (natL a)),(27,.sc (.int .i64 (nl a))),(28,.sc (.int .i64 i)),(33,.sl .int (natL b)),(34,.sc (.int .i64 (nl b))),(35,.sc (.int .i64 x.1))],[(0,.row 3 .int 0 true x.2.2)]⟩) (fun x=>x.1<=nl b/\0<=x.2.1/\x.2.1<=999999999/\lims x.2.2/\x.2.2.length=nl a+nl b/\ni x.2.2 (i+nl b)=0/\val x.2.2+pw (i+x.1) * x.2.1.toNat=a % pw i * b+pw i * (dg a i * (b % pw x.1))) (fun x=>nl b - x.1) (0,0,out) ?_ ⟨by simp,by simp,by simp,h2,h3,ni_of_lt h2 hv,by simp [h4,pw_zero,Nat.mod_one]⟩ ?_
   ·refine Wk.mk [] ?_
    try simp (maxSteps:=9^9) only[go_sem]
    try (and_intros<;>first|rfl|omega|exact ⟨_,rfl⟩)
   ·rintro ⟨k,c,ou⟩ ⟨g1,g2,g3,g4,g5,g7,g6⟩
    simp only at g1 g2 g3 g4 g5 g6 g7
    try simp (maxSteps:=9^9) only[go_sem]
    refine CondW_dec (fun hD=>?_) (fun hD=>?_)
    ·have hd2:=dg_lt b k
     obtain ⟨m1,m2,m3,m4⟩:=mul_step (j:=i+k) (x:=dg a i) (y:=dg b k) (c:=c) (n:=ni ou (i+k)+dg a i * dg b k+c) g4 (by omega) (by omega) (by omega) (by omega) (by omega) g2 g3 rfl g6
     rw [toNat_mul_dg,mul_row] at m4
     have hni:=lims_ni g4 (i+k)
     have hmm:0<=(dg a i:Int) * (dg b k:Int):=Int.mul_nonneg (by omega) (by omega)
     generalize hmg:(dg a i:Int) * (dg b k:Int)=mm at *
     try simp (maxSteps:=9^9) only[go_sem,hD,hmg]
     repeat refine And.intro (by first|omega|(constructor<;>omega)|kernel_rfl) ?_
     refine RemW.pos (by omega) (by decide) ?_
     try simp (maxSteps:=9^9) only[go_sem]
     repeat refine And.intro (by first|omega|(constructor<;>omega)|kernel_rfl) ?_
     refine QuoW.pos (by omega) (by decide) ?_
     try simp (maxSteps:=9^9) only[go_sem]
     repeat refine And.intro (by first|omega|(constructor<;>omega)|kernel_rfl) ?_
     refine LoopK.mk (k+1,(ni ou (i+k)+mm+c) / 1000000000,ou.set (i+k) ((ni ou (i+k)+mm+c) % 1000000000)) ?_ ⟨by simp only; omega,by simp only; omega,by simp only; omega,m3,by simp [g5],?_,m4⟩ (by simp only; omega)
     ·refine Wk.mk [] ?_
      try simp (maxSteps:=9^9) only[go_sem]
      try (and_intros<;>first|rfl|omega|exact ⟨_,rfl⟩)
     ·simp only
      rw [ni_lt (by simp; omega),List.getElem_set_ne (by omega),<-ni_lt (by omega)]; exact g7
    ·try simp (maxSteps:=9^9) only[go_sem,hD]
     have hk:k=nl b:=by omega
     subst hk
     rw [mul_rowEnd (Nat.le_refl _)] at g6
     have hs:=val_set c (show i+nl b < ou.length by omega)
     rw [g7] at hs
     repeat refine And.intro (by first|omega|(constructor<;>omega)|kernel_rfl) ?_
     refine LoopK.mk (i+1,ou.set (i+nl b) c) ?_ ⟨by simp only; omega,lims_set g4 _ g2 g3,by simp [g5],by simp only; rw [<-g6]; simpa using hs⟩ (by simp only; omega)
     refine Wk.mk [] ?_
     try simp (maxSteps:=9^9) only[go_sem]
     try (and_intros<;>first|rfl|omega|exact ⟨_,rfl⟩)
  ·try simp (maxSteps:=9^9) only[go_sem,hC]
   repeat refine And.intro (by first|omega|(constructor<;>omega)|kernel_rfl) ?_
   refine CallW.mk (l02Trim_fn out) ?_
   try simp (maxSteps:=9^9) only[go_sem]
   rw [trimL_val h2,h4,Nat.mod_eq_of_lt (nl_iff.1 (by omega))]
theorem natDivSmall_fn (a n:Nat) (hn:0 < n) (hn2:n < 1000000000) (ha:nl a<=100000):Fn Tryz.prog 117 [⟨tInts,natL a⟩,⟨.int,(n:Int)⟩] false [⟨tInts,natL (a / n)⟩,⟨.int,((a % n:Nat):Int)⟩]:=by
 refine fn_enter tabOK mixes Tryz.func117 rfl rfl _ Tryz.ntmps117 _ Tryz.results117 (by simp) fun hwf=>?_
 try simp (maxSteps:=9^9) only[go_sem]
 repeat refine And.intro (by first|omega|(constructor<;>omega)|kernel_rfl) ?_
 refine LoopG.intro _ _ _ (fun x:Nat × List Int=>⟨[(0,.sl .int (natL a)),(1,.sc (.int .i64 n)),(6,.row 0 0),(7,.sc (.int .i64 (a / pw x.1 % n:Nat))),(8,.sc (.int .i64 ((x.1:Int) - 1)))],[(0,.row 3 .int 0 true x.2)]⟩) (fun x=>x.1<=nl a/\lims x.2/\x.2.length=nl a/\val x.2=pw x.1 * (a / pw x.1 / n)) (fun x=>x.1) (nl a,List.replicate (nl a) 0) ?_ ⟨by simp,lims_rep _,by simp,by simp [val_rep,Nat.div_eq_of_lt (lt_nl a)]⟩ ?_
 ·refine Wk.mk [] ?_
  try simp (maxSteps:=9^9) only[go_sem]
  try (and_intros<;>first|rfl|omega|exact ⟨_,rfl⟩)
  all_goals (simp [Nat.div_eq_of_lt (lt_nl a)])
 ·rintro ⟨t,out⟩ ⟨h1,h2,h3,h4⟩
  simp only at h1 h2 h3 h4
  have hml:=Nat.mod_lt (a / pw t) hn
  try simp (maxSteps:=9^9) only[go_sem]
  refine CondW_dec (fun hA=>?_) (fun hA=>?_)
  ·obtain ⟨i,rfl⟩:∃ i,t=i+1:=⟨t - 1,by omega⟩
   have hd1:=dg_lt a i
   obtain ⟨s1,s2,s3⟩:=small_step (a:=a) (i:=i) hn
   obtain ⟨s4,s5⟩:=small_set h2 (show i < out.length by omega) s3 h4
   have ei:((i+1:Nat):Int) - 1=i:=by omega
   try simp (maxSteps:=9^9) only[go_sem,ei]
   repeat refine And.intro (by first|omega|(constructor<;>omega)|kernel_rfl) ?_
   refine QuoW.pos (by omega) (by omega) ?_
   try simp (maxSteps:=9^9) only[go_sem]
   repeat refine And.intro (by first|omega|(constructor<;>omega)|kernel_rfl) ?_
   refine RemW.pos (by omega) (by omega) ?_
   try simp (maxSteps:=9^9) only[go_sem]
   repeat refine And.intro (by first|omega|(constructor<;>omega)|kernel_rfl) ?_
   have eq1:(((a / pw (i+1) % n:Nat):Int) * 1000000000+(dg a i:Int)) / (n:Int)=(((a / pw (i+1) % n * 1000000000+dg a i) / n:Nat):Int):=by
    rw [Int.natCast_ediv]; congr 1
   have eq2:(((a / pw (i+1) % n:Nat):Int) * 1000000000+(dg a i:Int)) % (n:Int)=((a / pw i % n:Nat):Int):=by
    rw [<-s1,Int.natCast_emod]; congr 1
   refine LoopK.mk (i,out.set i (((a / pw (i+1) % n * 1000000000+dg a i) / n:Nat):Int)) ?_ ⟨by simp only; omega,s4,by simp [h3],by simp only; rw [s5,s2]⟩ (by simp only; omega)
   refine Wk.mk [] ?_
   try simp (maxSteps:=9^9) only[go_sem]
   try (and_intros<;>first|rfl|omega|exact ⟨_,rfl⟩)
   all_goals (rw [eq1,eq2]; exact ⟨rfl,rfl⟩)
  ·have ht:t=0:=by omega
   subst ht
   try simp (maxSteps:=9^9) only[go_sem,hA]
   repeat refine And.intro (by first|omega|(constructor<;>omega)|kernel_rfl) ?_
   refine CallW.mk (trimmed_fn out) ?_
   try simp (maxSteps:=9^9) only[go_sem]
   rw [trimL_val h2,h4,pw_zero,Nat.div_one,Nat.one_mul]
   exact ⟨rfl,rfl⟩
theorem l02Small_fn (a n:Nat) (hn:0 < n) (hn2:n < 1000000000) (ha:nl a<=100000):Fn Tryz.prog 182 [⟨tInts,natL a⟩,⟨.int,(n:Int)⟩] false [⟨tInts,natL (a / n)⟩,⟨.int,((a % n:Nat):Int)⟩]:=by
 refine fn_enter tabOK mixes Tryz.func182 rfl rfl _ Tryz.ntmps182 _ Tryz.results182 (by simp) fun hwf=>?_
 try simp (maxSteps:=9^9) only[go_sem]
 repeat refine And.intro (by first|omega|(constructor<;>omega)|kernel_rfl) ?_
 refine LoopG.intro _ _ _ (fun x:Nat × List Int=>⟨[(0,.sl .int (natL a)),(1,.sc (.int .i64 n)),(6,.row 0 0),(7,.sc (.int .i64 (a / pw x.1 % n:Nat))),(8,.sc (.int .i64 ((x.1:Int) - 1)))],[(0,.row 3 .int 0 true x.2)]⟩) (fun x=>x.1<=nl a/\lims x.2/\x.2.length=nl a/\val x.2=pw x.1 * (a / pw x.1 / n)) (fun x=>x.1) (nl a,List.replicate (nl a) 0) ?_ ⟨by simp,lims_rep _,by simp,by simp [val_rep,Nat.div_eq_of_lt (lt_nl a)]⟩ ?_
 ·refine Wk.mk [] ?_
  try simp (maxSteps:=9^9) only[go_sem]
  try (and_intros<;>first|rfl|omega|exact ⟨_,rfl⟩)
  all_goals (simp [Nat.div_eq_of_lt (lt_nl a)])
 ·rintro ⟨t,out⟩ ⟨h1,h2,h3,h4⟩
  simp only at h1 h2 h3 h4
  have hml:=Nat.mod_lt (a / pw t) hn
  try simp (maxSteps:=9^9) only[go_sem]
  refine CondW_dec (fun hA=>?_) (fun hA=>?_)
  ·obtain ⟨i,rfl⟩:∃ i,t=i+1:=⟨t - 1,by omega⟩
   have hd1:=dg_lt a i
   obtain ⟨s1,s2,s3⟩:=small_step (a:=a) (i:=i) hn
   obtain ⟨s4,s5⟩:=small_set h2 (show i < out.length by omega) s3 h4
   have ei:((i+1:Nat):Int) - 1=i:=by omega
   try simp (maxSteps:=9^9) only[go_sem,ei]
   repeat refine And.intro (by first|omega|(constructor<;>omega)|kernel_rfl) ?_
   refine QuoW.pos (by omega) (by omega) ?_
   try simp (maxSteps:=9^9) only[go_sem]
   repeat refine And.intro (by first|omega|(constructor<;>omega)|kernel_rfl) ?_
   refine RemW.pos (by omega) (by omega) ?_
   try simp (maxSteps:=9^9) only[go_sem]
   repeat refine And.intro (by first|omega|(constructor<;>omega)|kernel_rfl) ?_
   have eq1:(((a / pw (i+1) % n:Nat):Int) * 1000000000+(dg a i:Int)) / (n:Int)=(((a / pw (i+1) % n * 1000000000+dg a i) / n:Nat):Int):=by
    rw [Int.natCast_ediv]; congr 1
   have eq2:(((a / pw (i+1) % n:Nat):Int) * 1000000000+(dg a i:Int)) % (n:Int)=((a / pw i % n:Nat):Int):=by
    rw [<-s1,Int.natCast_emod]; congr 1
   refine LoopK.mk (i,out.set i (((a / pw (i+1) % n * 1000000000+dg a i) / n:Nat):Int)) ?_ ⟨by simp only; omega,s4,by simp [h3],by simp only; rw [s5,s2]⟩ (by simp only; omega)
   refine Wk.mk [] ?_
   try simp (maxSteps:=9^9) only[go_sem]
   try (and_intros<;>first|rfl|omega|exact ⟨_,rfl⟩)
   all_goals (rw [eq1,eq2]; exact ⟨rfl,rfl⟩)
  ·have ht:t=0:=by omega
   subst ht
   try simp (maxSteps:=9^9) only[go_sem,hA]
   repeat refine And.intro (by first|omega|(constructor<;>omega)|kernel_rfl) ?_
   refine CallW.mk (l02Trim_fn out) ?_
   try simp (maxSteps:=9^9) only[go_sem]
   rw [trimL_val h2,h4,pw_zero,Nat.div_one,Nat.one_mul]
   exact ⟨rfl,rfl⟩
end Go.Proofs.YtaflkgjckmfkoaaGreat.DW

namespace Go.Proofs.YtaflkgjckmfkoaaGreat.DW
open Ieee
theorem uu_ex:∃ u:Nat,u=2 ^ 1074:=⟨_,rfl⟩
theorem gg_ex:∃ u:Nat,u=2 ^ 1000:=⟨_,rfl⟩
theorem ll_ex:∃ u:Nat,u=2 ^ 2000:=⟨_,rfl⟩
noncomputable def UU:Nat:=Classical.choose uu_ex
noncomputable def GG:Nat:=Classical.choose gg_ex
noncomputable def LL:Nat:=Classical.choose ll_ex
theorem uu_def:UU=2 ^ 1074:=Classical.choose_spec uu_ex
theorem gg_def:GG=2 ^ 1000:=Classical.choose_spec gg_ex
theorem ll_def:LL=2 ^ 2000:=Classical.choose_spec ll_ex
def Rd (x R:Nat):Prop:=∃ m k:Nat,double.read x=.number false m ((k:Int) - 1074)/\m < 2 ^ 53/\k<=2000/\R=m * 2 ^ k
def Near (T N:Nat):Prop:=T * 2 ^ 53<=N * 2 ^ 53+N/\N * 2 ^ 53<=T * 2 ^ 53+N
theorem near_refl (N:Nat):Near N N:=⟨Nat.le_add_right ..,Nat.le_add_right ..⟩
theorem double_least:double.leastPlace=-1074:=by decide
theorem double_binade:double.binade=2 ^ 52:=by decide
theorem double_inf:double.infRung=2047 * 2 ^ 52:=by decide
theorem double_sign:double.signWeight=2 ^ 63:=by decide
theorem read_rung {t kept:Nat} (h1:kept<=2 ^ 53) (h2:t=0\/2 ^ 52<=kept) (h3:t<=1990):Rd (t * 2 ^ 52+kept) (kept * 2 ^ t):=by
 have hlt:t * 2 ^ 52+kept < 2047 * 2 ^ 52:=by omega
 unfold Rd Format.read
 simp only [double_least,double_binade,double_inf,double_sign]
 have e1:(t * 2 ^ 52+kept) / 2 ^ 63 % 2=0:=by rw [Nat.div_eq_of_lt (by omega)]
 have e2:(t * 2 ^ 52+kept) % 2 ^ 63=t * 2 ^ 52+kept:=Nat.mod_eq_of_lt (by omega)
 rw [e1,e2]
 by_cases ha:t * 2 ^ 52+kept < 2 ^ 52
 ·have ht:t=0:=by omega
  subst ht
  refine ⟨kept,0,?_,by omega,by omega,rfl⟩
  rw [if_pos ha]
  simp
 ·rw [if_neg ha,if_pos hlt]
  by_cases hk:kept=2 ^ 53
  ·subst hk
   refine ⟨2 ^ 52,t+1,?_,by decide,by omega,by rw [Nat.pow_succ]; omega⟩
   have e3:(t * 2 ^ 52+2 ^ 53) % 2 ^ 52=0:=by omega
   have e4:(t * 2 ^ 52+2 ^ 53) / 2 ^ 52=t+2:=by omega
   rw [e3,e4]
   simp
   omega
  ·refine ⟨kept,t,?_,by omega,by omega,rfl⟩
   have e3:(t * 2 ^ 52+kept) % 2 ^ 52=kept - 2 ^ 52:=by omega
   have e4:(t * 2 ^ 52+kept) / 2 ^ 52=t+1:=by omega
   rw [e3,e4]
   simp
   omega
theorem cut_zero (n:Nat):Toward.even.cut false n 0=n:=by
 simp [Toward.cut,Nat.mod_one]
theorem cut_near {n d:Nat} (hd:d<=n.log2+2):2 * (Toward.even.cut false n d * 2 ^ d)<=2 * n+2 ^ d/\2 * n<=2 * (Toward.even.cut false n d * 2 ^ d)+2 ^ d/\n / 2 ^ d<=Toward.even.cut false n d/\Toward.even.cut false n d<=n / 2 ^ d+1:=by
 have hg:(1:Nat) <<< min d (n.log2+2)=2 ^ d:=by rw [Nat.min_eq_left hd,Nat.one_shiftLeft]
 have hdm:=Nat.div_add_mod n (2 ^ d)
 have hml:=Nat.mod_lt n (Nat.two_pow_pos d)
 rw [Nat.mul_comm] at hdm
 unfold Toward.cut
 simp only [hg]
 generalize n / 2 ^ d=q at *
 generalize n % 2 ^ d=r at *
 generalize 2 ^ d=g at *
 by_cases h:(decide (g < 2 * r) || g == 2 * r && q % 2 == 1)=true
 ·rw [h]
  simp only [Bool.or_eq_true,decide_eq_true_eq,Bool.and_eq_true,beq_iff_eq] at h
  rw [Bool.toNat_true,Nat.add_mul,Nat.one_mul]
  omega
 ·rw [Bool.not_eq_true] at h
  rw [h]
  simp only [Bool.or_eq_false_iff,decide_eq_false_iff_not,Bool.and_eq_false_iff,beq_eq_false_iff_ne] at h
  rw [Bool.toNat_false,Nat.add_zero]
  omega
theorem lin1 {K M g:Nat} (c1:2 * K<=2 * M+g) (c2:2 * M<=2 * K+g) (hg:2 ^ 52 * g<=M):K * 2 ^ 53<=M * 2 ^ 53+M/\M * 2 ^ 53<=K * 2 ^ 53+M:=by omega
theorem lin2 {M D n:Nat} (g1:M<=2 * D+n) (g2:2 * D<=M+n) (hb:2 ^ 53 * n<=D):M * 2 ^ 53<=2 * D * 2 ^ 53+2 * D/\2 * D * 2 ^ 53<=M * 2 ^ 53+2 * D:=by omega
theorem pmul_lt {n a b c:Nat} (h:n < 2 ^ a) (hc:a+b<=c):n * 2 ^ b < 2 ^ c:=by
 have h1:n * 2 ^ b < 2 ^ a * 2 ^ b:=Nat.mul_lt_mul_of_pos_right h (Nat.two_pow_pos b)
 rw [<-Nat.pow_add] at h1
 exact Nat.lt_of_lt_of_le h1 (Nat.pow_le_pow_right (by decide) hc)
theorem pow_split {a b c:Nat} (h:c=a+b):2 ^ c=2 ^ a * 2 ^ b:=by rw [h,Nat.pow_add]
theorem pow_join {a b c d:Nat} (h:a+b=c+d):2 ^ a * 2 ^ b=2 ^ c * 2 ^ d:=by rw [<-Nat.pow_add,<-Nat.pow_add,h]
theorem lt_cancel {a b c:Nat} (h:a * c < b * c):a < b:=Nat.lt_of_mul_lt_mul_right h
theorem not_le_zero_pow {k:Nat} (h:2 ^ k<=0):False:=absurd h (Nat.not_le_of_gt (Nat.two_pow_pos k))
theorem ple {a b:Nat} (h:a<=b):2 ^ a<=2 ^ b:=Nat.pow_le_pow_right (by decide) h
theorem pow_le_pow2 {a b:Nat} (h:2 ^ a < 2 ^ b):a < b:=(Nat.pow_lt_pow_iff_right (by decide)).1 h
theorem pjoin {i u mo q:Nat} (h:i+u=mo+1+q):2 ^ i * 2 ^ u=2 * 2 ^ mo * 2 ^ q:=by
 rw [<-Nat.pow_add,show (2:Nat) * 2 ^ mo=2 ^ (mo+1) by rw [Nat.pow_succ,Nat.mul_comm],<-Nat.pow_add,h]
theorem nearest_ok {mag p:Nat} (h:mag * 2 ^ p < 2 ^ 2000):∃ R,Rd (double.nearest false mag ((p:Int) - 1074)) R/\Near R (mag * 2 ^ p):=by
 by_cases h0:mag=0
 ·subst h0
  refine ⟨0,?_,by rw [Nat.zero_mul]; exact near_refl 0⟩
  have:double.nearest false 0 ((p:Int) - 1074)=0 * 2 ^ 52+0:=by simp [Format.nearest,Format.word]
  rw [this]
  have:=read_rung (t:=0) (kept:=0) (by decide) (.inl rfl) (by decide)
  simpa using this
 have hl1:2 ^ mag.log2<=mag:=Nat.log2_self_le h0
 have hl2:mag < 2 ^ (mag.log2+1):=Nat.lt_log2_self
 generalize hlog:mag.log2=lg at *
 have hlp:lg+p < 2000:=by
  apply pow_le_pow2
  rw [Nat.pow_add]
  exact Nat.lt_of_le_of_lt (Nat.mul_le_mul_right _ hl1) h
 have hlast:max ((p:Int) - 1074+lg - 52) (-1074)=((p+lg - 52:Nat):Int) - 1074:=by omega
 have hnear:double.nearest false mag ((p:Int) - 1074)=min ((p+lg - 52) * 2 ^ 52+Toward.even.cut false (mag <<< (p - (p+lg - 52))) (p+lg - 52 - p)) (2047 * 2 ^ 52):=by
  unfold Format.nearest
  rw [if_neg h0]
  simp only [double_least,double_binade,double_inf,hlog]
  have hf:(double.fractionBits:Int)=52:=rfl
  rw [hf,hlast]
  have e1:((((p+lg - 52:Nat):Int) - 1074) - -1074).toNat=p+lg - 52:=by omega
  have e2:((p:Int) - 1074 - (((p+lg - 52:Nat):Int) - 1074)).toNat=p - (p+lg - 52):=by omega
  have e3:((((p+lg - 52:Nat):Int) - 1074) - ((p:Int) - 1074)).toNat=p+lg - 52 - p:=by omega
  rw [e1,e2,e3]
  simp [Format.word]
 rw [hnear]
 generalize ht:p+lg - 52=t
 by_cases hc:t<=p
 ·
  rw [show t - p=0 by omega,cut_zero,Nat.shiftLeft_eq]
  have hk1:mag * 2 ^ (p - t) < 2 ^ 53:=by
   have:mag * 2 ^ (p - t) < 2 ^ (lg+1) * 2 ^ (p - t):=Nat.mul_lt_mul_of_pos_right hl2 (Nat.two_pow_pos _)
   rw [<-Nat.pow_add] at this
   exact Nat.lt_of_lt_of_le this (Nat.pow_le_pow_right (by decide) (by omega))
  have hk2:t=0\/2 ^ 52<=mag * 2 ^ (p - t):=by
   by_cases h00:t=0
   ·exact .inl h00
   ·refine .inr ?_
    have:2 ^ lg * 2 ^ (p - t)<=mag * 2 ^ (p - t):=Nat.mul_le_mul_right _ hl1
    rw [<-Nat.pow_add] at this
    rwa [show lg+(p - t)=52 by omega] at this
  have hR:=read_rung (t:=t) (kept:=mag * 2 ^ (p - t)) (by omega) hk2 (by omega)
  rw [Nat.min_eq_left (by omega)]
  refine ⟨_,hR,?_⟩
  rw [Nat.mul_assoc,<-Nat.pow_add,show p - t+t=p by omega]
  exact near_refl _
 ·rw [show p - t=0 by omega,Nat.shiftLeft_zero,show t - p=lg - 52 by omega]
  have hlg:52 < lg:=by omega
  obtain ⟨c1,c2,c3,c4⟩:=cut_near (n:=mag) (d:=lg - 52) (by rw [hlog]; omega)
  generalize Toward.even.cut false mag (lg - 52)=kept at *
  have hq1:2 ^ 52<=mag / 2 ^ (lg - 52):=by
   rw [Nat.le_div_iff_mul_le (Nat.two_pow_pos _),<-Nat.pow_add,show 52+(lg - 52)=lg by omega]; exact hl1
  have hq2:mag / 2 ^ (lg - 52) < 2 ^ 53:=by
   rw [Nat.div_lt_iff_lt_mul (Nat.two_pow_pos _),<-Nat.pow_add,show 53+(lg - 52)=lg+1 by omega]; exact hl2
  have hR:=read_rung (t:=t) (kept:=kept) (by omega) (.inr (by omega)) (by omega)
  rw [Nat.min_eq_left (by omega)]
  refine ⟨_,hR,?_⟩
  rw [show t=(lg - 52)+p by omega,Nat.pow_add,<-Nat.mul_assoc]
  have hg:2 ^ 52 * 2 ^ (lg - 52)<=mag:=by rw [<-Nat.pow_add,show 52+(lg - 52)=lg by omega]; exact hl1
  generalize kept * 2 ^ (lg - 52)=K at *
  generalize 2 ^ (lg - 52)=g at *
  obtain ⟨d1,d2⟩:=lin1 c1 c2 hg
  constructor
  ·have:=Nat.mul_le_mul_right (2 ^ p) d1
   rw [Nat.add_mul] at this
   rw [Nat.mul_right_comm K,Nat.mul_right_comm mag]; exact this
  ·have:=Nat.mul_le_mul_right (2 ^ p) d2
   rw [Nat.add_mul] at this
   rw [Nat.mul_right_comm K,Nat.mul_right_comm mag]; exact this
theorem rd_of_int {n:Nat} (h:n < 2 ^ 900):∃ R,Rd (floatOfInt .f64 n) R/\Near R (n * UU):=by
 have h1:n * 2 ^ 1074 < 2 ^ 2000:=pmul_lt (a:=900) (b:=1074) (c:=2000) h (by omega)
 obtain ⟨R,h2,h3⟩:=nearest_ok (mag:=n) (p:=1074) h1
 refine ⟨R,?_,by rw [uu_def]; exact h3⟩
 have:floatOfInt .f64 n=double.nearest false n (((1074:Nat):Int) - 1074):=by
  have hd:decide ((n:Int) < 0)=false:=by simp
  simp [floatOfInt,FloatKind.nearest,FloatKind.encode,FloatKind.format,Format.write,hd]
 rw [this]; exact h2
theorem rd_add {x y R S:Nat} (hx:Rd x R) (hy:Rd y S) (h:R+S < 2 ^ 2000):∃ r T,double.add x y=some r/\Rd r T/\Near T (R+S):=by
 obtain ⟨m,i,h1,_,_,rfl⟩:=hx
 obtain ⟨n,j,h2,_,_,rfl⟩:=hy
 have hsum:double.add x y=some (double.nearest false (m * 2 ^ (i - min i j)+n * 2 ^ (j - min i j)) (((min i j:Nat):Int) - 1074)):=by
  unfold Format.add
  rw [h1,h2]
  have hb:min ((i:Int) - 1074) ((j:Int) - 1074)=((min i j:Nat):Int) - 1074:=by
   rcases Nat.le_total i j with h|h
   ·rw [Nat.min_eq_left h,Int.min_eq_left (by omega)]
   ·rw [Nat.min_eq_right h,Int.min_eq_right (by omega)]
  simp only [Datum.sum,hb,signed,Bool.false_eq_true,if_false,Nat.shiftLeft_eq,Bool.and_false,Option.map_some,Format.write]
  rw [show ((i:Int) - 1074 - (((min i j:Nat):Int) - 1074)).toNat=i - min i j by omega,show ((j:Int) - 1074 - (((min i j:Nat):Int) - 1074)).toNat=j - min i j by omega]
  have hn:((m * 2 ^ (i - min i j):Nat):Int)+((n * 2 ^ (j - min i j):Nat):Int)=((m * 2 ^ (i - min i j)+n * 2 ^ (j - min i j):Nat):Int):=by rw [Int.natCast_add]
  rw [hn]
  have hd:decide (((m * 2 ^ (i - min i j)+n * 2 ^ (j - min i j):Nat):Int) < 0)=false:=decide_eq_false (Int.not_lt.2 (Int.natCast_nonneg _))
  have hs:(if ((m * 2 ^ (i - min i j)+n * 2 ^ (j - min i j):Nat):Int)=0 then false else decide (((m * 2 ^ (i - min i j)+n * 2 ^ (j - min i j):Nat):Int) < 0))=false:=by
   split
   ·rfl
   ·exact hd
  rw [hs,Int.natAbs_natCast]
 have he:(m * 2 ^ (i - min i j)+n * 2 ^ (j - min i j)) * 2 ^ (min i j)=m * 2 ^ i+n * 2 ^ j:=by
  rw [Nat.add_mul,Nat.mul_assoc,Nat.mul_assoc,<-Nat.pow_add,<-Nat.pow_add,show i - min i j+min i j=i by omega,show j - min i j+min i j=j by omega]
 obtain ⟨T,h3,h4⟩:=nearest_ok (mag:=m * 2 ^ (i - min i j)+n * 2 ^ (j - min i j)) (p:=min i j) (by rw [he]; exact h)
 rw [he] at h4
 exact ⟨_,T,hsum,h3,h4⟩
theorem rd_zero_nearest (z:Int):Rd (double.nearest false 0 z) 0:=by
 have:double.nearest false 0 z=0 * 2 ^ 52+0:=by simp [Format.nearest,Format.word]
 rw [this]
 have:=read_rung (t:=0) (kept:=0) (by decide) (.inl rfl) (by decide)
 simpa using this
theorem big_k {m k:Nat} (h:m < 2 ^ 53) (h2:2 ^ 1000<=m * 2 ^ k):948<=k:=by
 have:2 ^ 1000 < 2 ^ (53+k):=by
  rw [Nat.pow_add]
  exact Nat.lt_of_le_of_lt h2 (Nat.mul_lt_mul_of_pos_right h (Nat.two_pow_pos _))
 have:=pow_le_pow2 this
 omega
theorem rd_mul {x y R S L:Nat} (hL:L=2 ^ 2000) (hx:Rd x R) (hy:Rd y S) (h1:R=0\/2 ^ 1000<=R) (h2:2 ^ 1000<=S) (h:R * S < L * UU):∃ r T N,double.mul x y=some r/\Rd r T/\Near T N/\N * UU=R * S:=by
 obtain ⟨m,i,e1,m1,_,rfl⟩:=hx
 obtain ⟨n,j,e2,m2,_,rfl⟩:=hy
 have hp:double.mul x y=some (double.nearest false (m * n) ((i:Int) - 1074+((j:Int) - 1074))):=by
  unfold Format.mul
  rw [e1,e2]
  simp [Datum.product,Format.write]
 rcases h1 with h1|h1
 ·have hm:m=0:=by
   rcases Nat.eq_zero_or_pos m with h|h
   ·exact h
   ·have:=Nat.mul_pos h (Nat.two_pow_pos i); omega
  subst hm
  refine ⟨_,0,0,hp,?_,near_refl 0,by simp⟩
  rw [Nat.zero_mul]; exact rd_zero_nearest _
 ·have k1:=big_k m1 h1
  have k2:=big_k m2 h2
  have hpl:(i:Int) - 1074+((j:Int) - 1074)=((i+j - 1074:Nat):Int) - 1074:=by omega
  have hN:m * n * 2 ^ (i+j - 1074) * UU=m * 2 ^ i * (n * 2 ^ j):=by
   rw [uu_def]
   rw [Nat.mul_assoc (m * n),pow_join (show i+j - 1074+1074=i+j by omega)]
   simp only [Nat.mul_assoc,Nat.mul_left_comm,Nat.mul_comm]
  have hlt:m * n * 2 ^ (i+j - 1074) < L:=by
   rw [<-hN] at h
   exact lt_cancel h
  rw [hL] at hlt
  obtain ⟨T,h3,h4⟩:=nearest_ok hlt
  rw [hpl] at hp
  exact ⟨_,T,_,hp,h3,h4,hN⟩
theorem rd_div {x y R S:Nat} (hx:Rd x R) (hy:Rd y S) (h1:R=0\/2 ^ 1000<=R) (h2:2 ^ 1000<=S) (hR:R < UU * 2 ^ 100) (hS:S < UU * 2 ^ 100):∃ r T N,double.div x y=some r/\Rd r T/\Near T N/\N * S * 2 ^ 53<=R * UU * 2 ^ 53+R * UU/\R * UU * 2 ^ 53<=N * S * 2 ^ 53+R * UU:=by
 obtain ⟨m,i,e1,m1,_,rfl⟩:=hx
 obtain ⟨n,j,e2,m2,_,rfl⟩:=hy
 have hn0:n ≠ 0:=by
  rintro rfl
  rw [Nat.zero_mul] at h2
  exact not_le_zero_pow h2
 have hp:double.div x y=some (double.nearest false (2 * (m <<< (54+n.log2 - m.log2) / n)+(m <<< (54+n.log2 - m.log2) % n != 0).toNat) ((i:Int) - 1074 - ((j:Int) - 1074) - ((54+n.log2 - m.log2:Nat):Int) - 1)):=by
  unfold Format.div
  rw [e1,e2]
  simp [Datum.quotient,Format.write,hn0]
  rfl
 rcases h1 with h1|h1
 ·have hm:m=0:=by
   rcases Nat.eq_zero_or_pos m with h|h
   ·exact h
   ·have:=Nat.mul_pos h (Nat.two_pow_pos i); omega
  subst hm
  refine ⟨_,0,0,hp,?_,near_refl 0,by simp,by simp⟩
  have:(2 * ((0:Nat) <<< (54+n.log2 - (0:Nat).log2) / n)+((0:Nat) <<< (54+n.log2 - (0:Nat).log2) % n != 0).toNat)=0:=by simp
  rw [this]; exact rd_zero_nearest _
 ·have hm0:m ≠ 0:=by
   rintro rfl
   rw [Nat.zero_mul] at h1
   exact not_le_zero_pow h1
  have k1:=big_k m1 h1
  have k2:=big_k m2 h2
  have k3:i < 1174:=by
   apply pow_le_pow2
   have:2 ^ i<=m * 2 ^ i:=Nat.le_mul_of_pos_left _ (by omega)
   have e:UU * 2 ^ 100=2 ^ 1174:=by rw [uu_def]; exact (pow_split (a:=1074) (b:=100) (c:=1174) rfl).symm
   omega
  have k4:j < 1174:=by
   apply pow_le_pow2
   have:2 ^ j<=n * 2 ^ j:=Nat.le_mul_of_pos_left _ (by omega)
   have e:UU * 2 ^ 100=2 ^ 1174:=by rw [uu_def]; exact (pow_split (a:=1074) (b:=100) (c:=1174) rfl).symm
   omega
  have lm1:=Nat.log2_self_le hm0
  have ln1:=Nat.log2_self_le hn0
  have lm2:m < 2 ^ (m.log2+1):=Nat.lt_log2_self
  have ln2:n < 2 ^ (n.log2+1):=Nat.lt_log2_self
  have b1:m.log2 < 53:=pow_le_pow2 (Nat.lt_of_le_of_lt lm1 m1)
  have b2:n.log2 < 53:=pow_le_pow2 (Nat.lt_of_le_of_lt ln1 m2)
  generalize m.log2=lm at *
  generalize n.log2=ln at *
  generalize hmo:54+ln - lm=mo at *
  have hD:m <<< mo=m * 2 ^ mo:=Nat.shiftLeft_eq ..
  rw [hD] at hp
  have hdm:=Nat.div_add_mod (m * 2 ^ mo) n
  have hml:=Nat.mod_lt (m * 2 ^ mo) (Nat.pos_of_ne_zero hn0)
  have hbig:2 ^ 53 * n<=m * 2 ^ mo:=by
   have e1:2 ^ lm * 2 ^ mo<=m * 2 ^ mo:=Nat.mul_le_mul_right _ lm1
   rw [<-Nat.pow_add,show lm+mo=53+(ln+1) by omega,Nat.pow_add] at e1
   exact Nat.le_trans (Nat.mul_le_mul_left _ (Nat.le_of_lt ln2)) e1
  have hsm:m * 2 ^ mo < 2 ^ 160:=by
   have e1:m * 2 ^ mo < 2 ^ (lm+1) * 2 ^ mo:=Nat.mul_lt_mul_of_pos_right lm2 (Nat.two_pow_pos _)
   rw [<-Nat.pow_add] at e1
   exact Nat.lt_of_lt_of_le e1 (Nat.pow_le_pow_right (by decide) (by omega))
  have hpl:(i:Int) - 1074 - ((j:Int) - 1074) - (mo:Int) - 1=((i+1073 - j - mo:Nat):Int) - 1074:=by omega
  generalize hp':i+1073 - j - mo=p at *
  rw [hpl] at hp
  generalize hmag:2 * (m * 2 ^ mo / n)+(m * 2 ^ mo % n != 0).toNat=mag at *
  have hmg:mag * n<=2 * (m * 2 ^ mo)+n/\2 * (m * 2 ^ mo)<=mag * n+n/\mag<=2 * (m * 2 ^ mo)+1:=by
   have hle:m * 2 ^ mo / n<=m * 2 ^ mo:=Nat.div_le_self ..
   generalize m * 2 ^ mo / n=q at *
   generalize m * 2 ^ mo % n=rr at *
   generalize m * 2 ^ mo=D at *
   rw [Nat.mul_comm n q] at hdm
   rw [<-hmag,Nat.add_mul,Nat.mul_assoc]
   by_cases h:rr=0
   ·subst h
    simp only [bne_self_eq_false,Bool.toNat_false,Nat.zero_mul]
    omega
   ·have:(rr != 0)=true:=by simp [h]
    rw [this,Bool.toNat_true,Nat.one_mul]
    omega
  have hov:mag * 2 ^ p < 2 ^ 2000:=by
   have e1:mag < 2 ^ 162:=by omega
   exact pmul_lt (a:=162) (b:=p) (c:=2000) e1 (by omega)
  obtain ⟨T,h3,h4⟩:=nearest_ok hov
  refine ⟨_,T,_,hp,h3,h4,?_⟩
  have hE:m * 2 ^ i * UU=2 * (m * 2 ^ mo) * 2 ^ (p+j):=by
   rw [uu_def]
   have:=pjoin (i:=i) (u:=1074) (mo:=mo) (q:=p+j) (by omega)
   rw [Nat.mul_assoc,this]
   simp only [Nat.mul_assoc,Nat.mul_left_comm,Nat.mul_comm]
  have hF:mag * 2 ^ p * (n * 2 ^ j)=mag * n * 2 ^ (p+j):=by
   rw [Nat.pow_add]
   simp only [Nat.mul_assoc,Nat.mul_left_comm,Nat.mul_comm]
  rw [hE,hF]
  obtain ⟨g1,g2,_⟩:=hmg
  generalize mag * n=M at *
  generalize m * 2 ^ mo=D at *
  generalize 2 ^ (p+j)=G at *
  obtain ⟨d1,d2⟩:=lin2 g1 g2 hbig
  constructor
  ·have:=Nat.mul_le_mul_right G d1
   rw [Nat.add_mul] at this
   rw [Nat.mul_right_comm M,Nat.mul_right_comm (2 * D)]; exact this
  ·have:=Nat.mul_le_mul_right G d2
   rw [Nat.add_mul] at this
   rw [Nat.mul_right_comm M,Nat.mul_right_comm (2 * D)]; exact this
theorem rd_toInt {x R:Nat} (hx:Rd x R):(double.read x).toInt .zero=some ((R / UU:Nat):Int):=by
 obtain ⟨m,k,h1,h2,h3,rfl⟩:=hx
 rw [h1]
 simp only [Datum.toInt,Datum.integral,signed,Bool.false_eq_true,if_false,Nat.shiftLeft_zero,Toward.cut]
 congr 2
 simp only [Bool.toNat_false,Nat.add_zero,Nat.shiftLeft_eq,Nat.one_mul]
 rw [uu_def]
 rcases Nat.lt_or_ge k 1074 with hk|hk
 ·rw [show ((k:Int) - 1074).toNat=0 by omega,show (-((k:Int) - 1074)).toNat=1074 - k by omega,Nat.pow_zero,Nat.mul_one]
  have he:m * 2 ^ k / 2 ^ 1074=m / 2 ^ (1074 - k):=by
   rw [show (1074:Nat)=k+(1074 - k) by omega,Nat.pow_add,<-Nat.div_div_eq_div_mul,Nat.mul_div_cancel _ (Nat.two_pow_pos _),show k+(1074 - k) - k=1074 - k by omega]
  rw [he]
  rcases Nat.le_total (1074 - k) (m.log2+2) with h|h
  ·rw [Nat.min_eq_left h]
  ·rw [Nat.min_eq_right h]
   have e1:m < 2 ^ (m.log2+2):=Nat.lt_of_lt_of_le Nat.lt_log2_self (Nat.pow_le_pow_right (by decide) (by omega))
   rw [Nat.div_eq_of_lt e1,Nat.div_eq_of_lt (Nat.lt_of_lt_of_le e1 (Nat.pow_le_pow_right (by decide) h))]
 ·rw [show (-((k:Int) - 1074)).toNat=0 by omega,show ((k:Int) - 1074).toNat=k - 1074 by omega,Nat.zero_min,Nat.pow_zero,Nat.div_one]
  rw [show k=(k - 1074)+1074 by omega,Nat.pow_add,<-Nat.mul_assoc,Nat.mul_div_cancel _ (Nat.two_pow_pos 1074),Nat.add_sub_cancel]
theorem pos_uu:0 < UU:=by rw [uu_def]; exact Nat.two_pow_pos 1074
theorem uu_eq:UU=GG * 2 ^ 74:=by rw [uu_def,gg_def]; exact pow_split (a:=1000) (b:=74) (c:=1074) rfl
theorem ll_eq:LL=UU * 2 ^ 120 * 2 ^ 806:=by
 rw [ll_def,uu_def,<-pow_split (a:=1074) (b:=120) (c:=1194) rfl]
 exact pow_split (a:=1194) (b:=806) (c:=2000) rfl
theorem rd_add' {x y R S:Nat} (hx:Rd x R) (hy:Rd y S) (h:R+S < LL):∃ r T,double.add x y=some r/\Rd r T/\Near T (R+S):=rd_add hx hy (by rw [ll_def] at h; exact h)
theorem rd_mul' {x y R S:Nat} (hx:Rd x R) (hy:Rd y S) (h1:R=0\/GG<=R) (h2:GG<=S) (h:R * S < LL * UU):∃ r T N,double.mul x y=some r/\Rd r T/\Near T N/\N * UU=R * S
 := rd_mul ll_def hx hy (by rw [gg_def] at h1; exact h1) (by rw [gg_def] at h2; exact h2) h
theorem rd_div' {x y R S:Nat} (hx:Rd x R) (hy:Rd y S) (h1:R=0\/GG<=R) (h2:GG<=S) (hR:R < UU * 2 ^ 100) (hS:S < UU * 2 ^ 100):∃ r T N,double.div x y=some r/\Rd r T/\Near T N/\N * S * 2 ^ 53<=R * UU * 2 ^ 53+R * UU/\R * UU * 2 ^ 53<=N * S * 2 ^ 53+R * UU:=rd_div hx hy (by rw [gg_def] at h1; exact h1) (by rw [gg_def] at h2; exact h2) hR hS
end Go.Proofs.YtaflkgjckmfkoaaGreat.DW

namespace Go.Proofs.YtaflkgjckmfkoaaGreat.DW
open Ieee
def Ap (c x V:Nat):Prop:=∃ R,Rd x R/\R * 2 ^ 60<=V * 2 ^ 60+c * V/\V * 2 ^ 60<=R * 2 ^ 60+c * V
theorem near_lin {T N V c:Nat} (h1:T * 2 ^ 53<=N * 2 ^ 53+N) (h2:N * 2 ^ 53<=T * 2 ^ 53+N) (h3:N * 2 ^ 60<=V * 2 ^ 60+c * V) (h4:V * 2 ^ 60<=N * 2 ^ 60+c * V) (hc:c<=2 ^ 50):T * 2 ^ 60<=V * 2 ^ 60+(c+129) * V/\V * 2 ^ 60<=T * 2 ^ 60+(c+129) * V:=by
 have hcv:c * V<=2 ^ 50 * V:=Nat.mul_le_mul_right _ hc
 rw [Nat.add_mul]
 generalize c * V=z at *
 omega
theorem ap_conv {n:Nat} (h:n < 2 ^ 900):Ap 128 (floatOfInt .f64 n) (n * UU):=by
 obtain ⟨R,h1,h2,h3⟩:=rd_of_int h
 refine ⟨R,h1,?_⟩
 clear h1 h
 generalize n * UU=V at *
 omega
theorem pow_tri (x:Nat) {a b c U:Nat} (hu:U=2 ^ c) (e:c=a+b):x * U=x * 2 ^ a * 2 ^ b:=by rw [hu,e,Nat.pow_add,Nat.mul_assoc]
theorem rd_base:Rd 4741671816366391296 (1000000000 * UU):=by
 refine ⟨1000000000 * 2 ^ 23,1051,by decide +kernel,by decide,by decide,?_⟩
 have e:=pow_tri 1000000000 (a:=23) (b:=1051) (c:=1074) uu_def rfl
 exact e
theorem lt_2000 {V:Nat} (h:V < UU * 2 ^ 120):4 * V < LL:=by
 rw [ll_eq]
 have h2:UU * 2 ^ 120 * 2 ^ 2<=UU * 2 ^ 120 * 2 ^ 806:=Nat.mul_le_mul_left _ (ple (a:=2) (b:=806) (by omega))
 refine Nat.lt_of_lt_of_le ?_ h2
 clear h2
 omega
theorem la {R V z:Nat} (h2:R * 2 ^ 60<=V * 2 ^ 60+z) (h3:V * 2 ^ 60<=R * 2 ^ 60+z) (hz:z<=2 ^ 50 * V):R<=2 * V/\V<=2 * R:=by omega
theorem lb {u g V R:Nat} (e1:u<=V) (e2:u=g * 2 ^ 74) (hb:V<=2 * R):g<=R:=by omega
theorem lc {u g:Nat} (e2:u=g * 2 ^ 74):g<=1000000000 * u:=by omega
theorem ld {R V u:Nat} (hb:R<=2 * V) (e1:V<=2 ^ 80 * u) (h:0 < u):R * 1000000000 < u * 2 ^ 120:=by omega
theorem le4 {a b:Nat} (h:4 * a < b):a < b:=by omega
theorem lf {R V z:Nat} (h2:R * 2 ^ 60<=V * 2 ^ 60+z):R * 1000000000 * 2 ^ 60<=V * 1000000000 * 2 ^ 60+z * 1000000000:=by
 have:=Nat.mul_le_mul_right 1000000000 h2
 rw [Nat.add_mul] at this
 rw [Nat.mul_right_comm R,Nat.mul_right_comm V]
 exact this
theorem lg {R S V W u:Nat} (h2:R<=2 * V) (h3:S<=2 * W) (e1:V<=2 ^ 110 * u) (e2:W<=2 ^ 110 * u) (h:0 < u):R+S < u * 2 ^ 120:=by omega
theorem lh {R S V W x y z:Nat} (h1:R * 2 ^ 60<=V * 2 ^ 60+x) (h2:S * 2 ^ 60<=W * 2 ^ 60+y) (h3:y<=z):(R+S) * 2 ^ 60<=(V+W) * 2 ^ 60+(x+z):=by
 have:=Nat.add_le_add h1 (Nat.le_trans h2 (Nat.add_le_add_left h3 _))
 rw [Nat.add_add_add_comm] at this
 rw [Nat.add_mul,Nat.add_mul]
 exact this
theorem li {R V z u:Nat} (h2:R<=2 * V) (e1:V<=2 ^ 95 * u) (h:0 < u):R < u * 2 ^ 100:=by omega
theorem ap_nz {v R:Nat} (hb:R<=2 * (v * UU)/\v * UU<=2 * R):R=0\/GG<=R:=by
 by_cases hv0:v=0
 ·subst hv0
  rw [Nat.zero_mul] at hb
  exact .inl (Nat.le_zero.1 hb.1)
 ·exact .inr (lb (Nat.le_mul_of_pos_left _ (Nat.pos_of_ne_zero hv0)) uu_eq hb.2)
theorem ap_mul {c x v:Nat} (hc:c<=2 ^ 50) (h:Ap c x (v * UU)) (hv:v < 2 ^ 80):∃ r,floatBits .mul .f64 x 4741671816366391296=some r/\Ap (c+129) r (v * 1000000000 * UU):=by
 obtain ⟨R,h1,h2,h3⟩:=h
 have hb:=la h2 h3 (Nat.mul_le_mul_right _ hc)
 have hlt:R * (1000000000 * UU) < LL * UU:=by
  rw [<-Nat.mul_assoc]
  exact Nat.mul_lt_mul_of_pos_right (le4 (lt_2000 (ld hb.1 (Nat.mul_le_mul_right _ (Nat.le_of_lt hv)) pos_uu))) pos_uu
 obtain ⟨r,T,N,e1,e2,⟨e3,e4⟩,e5⟩:=rd_mul' h1 rd_base (ap_nz hb) (lc uu_eq) hlt
 refine ⟨r,e1,T,e2,?_⟩
 have hN:N=R * 1000000000:=by
  rw [<-Nat.mul_assoc] at e5
  exact Nat.eq_of_mul_eq_mul_right pos_uu e5
 rw [hN] at e3 e4
 have hV:v * 1000000000 * UU=v * UU * 1000000000:=Nat.mul_right_comm ..
 rw [hV]
 have d1:=lf h2
 have d2:=lf h3
 rw [Nat.mul_assoc c] at d1 d2
 exact near_lin e3 e4 d1 d2 hc
theorem ap_add {c x v d y w:Nat} (hc:c<=2 ^ 50) (hdc:d<=c) (h:Ap c x (v * UU)) (h':Ap d y (w * UU)) (hv:v < 2 ^ 110) (hw:w < 2 ^ 110):∃ r,floatBits .add .f64 x y=some r/\Ap (c+129) r ((v+w) * UU):=by
 obtain ⟨R,h1,h2,h3⟩:=h
 obtain ⟨S,g1,g2,g3⟩:=h'
 have hb:=la h2 h3 (Nat.mul_le_mul_right _ hc)
 have hb':=la g2 g3 (Nat.mul_le_mul_right _ (Nat.le_trans hdc hc))
 have hlt:R+S < LL:=le4 (lt_2000 (lg hb.1 hb'.1 (Nat.mul_le_mul_right _ (Nat.le_of_lt hv)) (Nat.mul_le_mul_right _ (Nat.le_of_lt hw)) pos_uu))
 obtain ⟨r,T,e1,e2,e3,e4⟩:=rd_add' h1 g1 hlt
 refine ⟨r,e1,T,e2,?_⟩
 have hdw:d * (w * UU)<=c * (w * UU):=Nat.mul_le_mul_right _ hdc
 have d1:=lh h2 g2 hdw
 have d2:=lh h3 g3 hdw
 rw [<-Nat.mul_add] at d1 d2
 rw [Nat.add_mul v w]
 exact near_lin e3 e4 d1 d2 hc
theorem chain_up {T N S R V W U p q s t u:Nat} (h1:T * p<=N * q) (h2:N * S * p<=R * U * q) (h3:R * s<=V * t) (h4:W * u<=S * s):T * W * (p * p * s * u)<=V * U * (q * q * t * s):=by
 have a1:=Nat.mul_le_mul h1 h4
 have a2:=Nat.mul_le_mul_right (q * s) h2
 have a3:=Nat.mul_le_mul_right (U * q * q * s) h3
 have b1:T * p * (W * u) * (p * s)<=N * q * (S * s) * (p * s):=Nat.mul_le_mul_right _ a1
 have b2:N * S * p * (q * s) * s<=R * U * q * (q * s) * s:=Nat.mul_le_mul_right _ a2
 have e1:T * W * (p * p * s * u)=T * p * (W * u) * (p * s):=by ac_rfl
 have e2:N * q * (S * s) * (p * s)=N * S * p * (q * s) * s:=by ac_rfl
 have e3:R * U * q * (q * s) * s=R * s * (U * q * q * s):=by ac_rfl
 have e4:V * t * (U * q * q * s)=V * U * (q * q * t * s):=by ac_rfl
 rw [e1,<-e4]
 rw [e2] at b1
 rw [e3] at b2
 exact Nat.le_trans b1 (Nat.le_trans b2 a3)
theorem chain_dn {T N S R V W U p q s t u:Nat} (h1:N * q<=T * p) (h2:R * U * q<=N * S * p) (h3:V * t<=R * s) (h4:S * s<=W * u):V * U * (t * q * q)<=T * W * (p * p * u):=by
 have b1:V * t * (U * q)<=R * s * (U * q):=Nat.mul_le_mul_right _ h3
 have b2:R * U * q * (s * q)<=N * S * p * (s * q):=Nat.mul_le_mul_right _ h2
 have b3:N * q * (S * s)<=T * p * (W * u):=Nat.mul_le_mul h1 h4
 have g1:V * U * (t * q * q)=V * t * (U * q) * q:=by ac_rfl
 have g2:R * s * (U * q) * q=R * U * q * (s * q):=by ac_rfl
 have g3:N * S * p * (s * q)=N * q * (S * s) * p:=by ac_rfl
 have g4:T * W * (p * p * u)=T * p * (W * u) * p:=by ac_rfl
 rw [g1,g4]
 refine Nat.le_trans (Nat.mul_le_mul_right _ b1) ?_
 rw [g2]
 refine Nat.le_trans b2 ?_
 rw [g3]
 exact Nat.mul_le_mul_right _ b3
theorem cancel_up {X Y w U k l:Nat} (hU:0 < U) (h:X * (w * U) * k<=Y * U * U * l):X * w * k<=Y * U * l:=by
 have b1:X * w * k * U=X * (w * U) * k:=by ac_rfl
 have b2:Y * U * l * U=Y * U * U * l:=by ac_rfl
 exact Nat.le_of_mul_le_mul_right (by rw [b1,b2]; exact h) hU
theorem cancel_dn {X Y w U k l:Nat} (hU:0 < U) (h:Y * U * U * k<=X * (w * U) * l):Y * U * k<=X * w * l:=by
 have b1:X * w * l * U=X * (w * U) * l:=by ac_rfl
 have b2:Y * U * k * U=Y * U * U * k:=by ac_rfl
 exact Nat.le_of_mul_le_mul_right (by rw [b1,b2]; exact h) hU
theorem chain_end {X Y k l:Nat} (h:X * k<=Y * l) (hk:0 < k) (hl:l * 2 ^ 40<=k * (2 ^ 40+1)):X * 2 ^ 40<=Y * (2 ^ 40+1):=by
 have h1:X * k * 2 ^ 40<=Y * l * 2 ^ 40:=Nat.mul_le_mul_right _ h
 have h2:Y * (l * 2 ^ 40)<=Y * (k * (2 ^ 40+1)):=Nat.mul_le_mul_left _ hl
 rw [<-Nat.mul_assoc] at h2
 have h3:X * 2 ^ 40 * k<=Y * (2 ^ 40+1) * k:=by
  rw [Nat.mul_right_comm X,Nat.mul_assoc Y,Nat.mul_comm (2 ^ 40+1) k]
  exact Nat.le_trans h1 h2
 exact Nat.le_of_mul_le_mul_right h3 hk
theorem lj {T N:Nat} (h:T * 2 ^ 53<=N * 2 ^ 53+N):T * 2 ^ 53<=N * (2 ^ 53+1):=by omega
theorem lk {T N:Nat} (h:N * 2 ^ 53<=T * 2 ^ 53+N):N * (2 ^ 53 - 1)<=T * 2 ^ 53:=by
 rw [Nat.mul_sub,Nat.mul_one]; exact Nat.sub_le_iff_le_add.2 h
theorem ll1 {R V:Nat} (h:R * 2 ^ 60<=V * 2 ^ 60+1024 * V):R * 2 ^ 60<=V * (2 ^ 60+1024):=by
 rw [Nat.mul_add,Nat.mul_comm V 1024]; exact h
theorem ll2 {R V:Nat} (h:V * 2 ^ 60<=R * 2 ^ 60+1024 * V):V * (2 ^ 60 - 1024)<=R * 2 ^ 60:=by
 rw [Nat.mul_sub,Nat.mul_comm V 1024]; exact Nat.sub_le_iff_le_add.2 h
theorem ap_div {x v y w:Nat} (h:Ap 1024 x (v * UU)) (h':Ap 1024 y (w * UU)) (hv:v < 2 ^ 95) (hw:w < 2 ^ 95) (hw0:0 < w):∃ r T,floatBits .quo .f64 x y=some r/\Rd r T/\T * w * 2 ^ 40<=v * UU * (2 ^ 40+1)/\v * UU * 2 ^ 40<=T * w * (2 ^ 40+1):=by
 obtain ⟨R,h1,h2,h3⟩:=h
 obtain ⟨S,g1,g2,g3⟩:=h'
 have hb:=la h2 h3 (Nat.mul_le_mul_right _ (by decide))
 have hb':=la g2 g3 (Nat.mul_le_mul_right _ (by decide))
 have hS:GG<=S:=lb (Nat.le_mul_of_pos_left _ hw0) uu_eq hb'.2
 have hR2:R < UU * 2 ^ 100:=li (z:=0) hb.1 (Nat.mul_le_mul_right _ (Nat.le_of_lt hv)) pos_uu
 have hS2:S < UU * 2 ^ 100:=li (z:=0) hb'.1 (Nat.mul_le_mul_right _ (Nat.le_of_lt hw)) pos_uu
 obtain ⟨r,T,N,e1,e2,⟨e3,e4⟩,e5,e6⟩:=rd_div' h1 g1 (ap_nz hb) hS hR2 hS2
 refine ⟨r,T,e1,e2,?_⟩
 constructor
 ·exact cancel_up pos_uu (chain_end (chain_up (lj e3) (lj e5) (ll1 h2) (ll2 g3)) (by decide) (by decide))
 ·exact cancel_dn pos_uu (chain_end (chain_dn (lk e4) (lk e6) (ll2 h3) (ll1 g2)) (by decide) (by decide))
theorem g_up {g T u X Y q:Nat} (hu:0 < u) (hg:g * u<=T) (h:T * Y * 2 ^ 40<=X * u * (2 ^ 40+1)) (hX:X<=2 ^ 31 * Y) (hq:X < (q+2) * Y):g < q+3:=by
 have h1:g * Y * 2 ^ 40 * u<=X * (2 ^ 40+1) * u:=by
  have e1:g * Y * 2 ^ 40 * u=g * u * (Y * 2 ^ 40):=by ac_rfl
  have e2:X * (2 ^ 40+1) * u=X * u * (2 ^ 40+1):=by ac_rfl
  rw [e1,e2]
  refine Nat.le_trans (Nat.mul_le_mul_right _ hg) ?_
  rw [<-Nat.mul_assoc]; exact h
 have h2:=Nat.le_of_mul_le_mul_right h1 hu
 rw [Nat.mul_add,Nat.mul_one] at h2
 have h3:g * Y<=X+Y:=by omega
 have h4:g * Y < (q+3) * Y:=by rw [show q+3=(q+2)+1 by omega,Nat.add_mul (q+2),Nat.one_mul]; omega
 exact Nat.lt_of_mul_lt_mul_right h4
theorem g_dn {g T u X Y q:Nat} (hu:0 < u) (hY:0 < Y) (hg:T<=(g+1) * u) (h:X * u * 2 ^ 40<=T * Y * (2 ^ 40+1)) (hq:q * Y<=X) (hq2:q < 2 ^ 31):q<=g+1:=by
 have h1:X * 2 ^ 40 * u<=(g+1) * Y * (2 ^ 40+1) * u:=by
  have e1:X * 2 ^ 40 * u=X * u * 2 ^ 40:=by ac_rfl
  have e2:(g+1) * Y * (2 ^ 40+1) * u=(g+1) * u * (Y * (2 ^ 40+1)):=by ac_rfl
  rw [e1,e2]
  refine Nat.le_trans h ?_
  rw [Nat.mul_assoc]
  exact Nat.mul_le_mul_right _ hg
 have h2:=Nat.le_of_mul_le_mul_right h1 hu
 have h3:q * 2 ^ 40 * Y<=(g+1) * (2 ^ 40+1) * Y:=by
  have e1:q * 2 ^ 40 * Y=q * Y * 2 ^ 40:=by ac_rfl
  have e2:(g+1) * (2 ^ 40+1) * Y=(g+1) * Y * (2 ^ 40+1):=by ac_rfl
  rw [e1,e2]
  exact Nat.le_trans (Nat.mul_le_mul_right _ hq) h2
 have h4:=Nat.le_of_mul_le_mul_right h3 hY
 rw [Nat.mul_add,Nat.mul_one] at h4
 omega
theorem top3 {a L:Nat} (h:a < pw (L+3)):a / pw L=(dg a (L+2) * 1000000000+dg a (L+1)) * 1000000000+dg a L:=by
 have h1:=div_pw_succ a L
 have h2:a / pw (L+1)=1000000000 * (a / pw (L+2))+dg a (L+1):=div_pw_succ a (L+1)
 have h3:dg a (L+2)=a / pw (L+2):=dg_top h
 omega
theorem top2 {b L:Nat} (h:b < pw (L+2)):b / pw L=dg b (L+1) * 1000000000+dg b L:=by
 have h1:=div_pw_succ b L
 have h3:dg b (L+1)=b / pw (L+1):=dg_top h
 omega
theorem quo_bounds {a b P X Y:Nat} (hP:0 < P) (hX:a / P=X) (hY:b / P=Y) (hb:1000000000<=Y) (hab:a < b * 1000000000):X<=2 ^ 31 * Y/\X < (a / b+2) * Y/\a / b * Y<=X/\a / b < 1000000000:=by
 have ha1:X * P<=a:=hX ▸ Nat.div_mul_le_self a P
 have ha2:a < (X+1) * P:=by rw [<-hX]; exact Nat.lt_mul_of_div_lt (Nat.lt_succ_self _) hP
 have hb1:Y * P<=b:=hY ▸ Nat.div_mul_le_self b P
 have hb2:b < (Y+1) * P:=by rw [<-hY]; exact Nat.lt_mul_of_div_lt (Nat.lt_succ_self _) hP
 have hb0:0 < b:=by
  have:0 < Y * P:=Nat.mul_pos (by omega) hP
  omega
 have hq:a / b < 1000000000:=by rw [Nat.div_lt_iff_lt_mul hb0,Nat.mul_comm]; exact hab
 have hq1:a / b * b<=a:=Nat.div_mul_le_self a b
 have hq2:a < (a / b+1) * b:=Nat.lt_mul_of_div_lt (Nat.lt_succ_self _) hb0
 generalize a / b=q at *
 refine ⟨?_,?_,?_,hq⟩
 ·have h1:X * P < (Y+1) * 1000000000 * P:=by
   have e:(Y+1) * 1000000000 * P=(Y+1) * P * 1000000000:=by ac_rfl
   rw [e]
   exact Nat.lt_of_le_of_lt ha1 (Nat.lt_trans hab (Nat.mul_lt_mul_of_pos_right hb2 (by decide)))
  have h2:=Nat.lt_of_mul_lt_mul_right h1
  omega
 ·have h1:X * P < (q+1) * (Y+1) * P:=by
   rw [Nat.mul_assoc]
   exact Nat.lt_of_le_of_lt ha1 (Nat.lt_of_lt_of_le hq2 (Nat.mul_le_mul_left _ (Nat.le_of_lt hb2)))
  have h2:=Nat.lt_of_mul_lt_mul_right h1
  have e1:(q+1) * (Y+1)=(q+1) * Y+(q+1):=by rw [Nat.mul_add,Nat.mul_one]
  have e2:(q+2) * Y=(q+1) * Y+Y:=by rw [show q+2=(q+1)+1 by omega,Nat.add_mul (q+1),Nat.one_mul]
  omega
 ·have h1:q * Y * P < (X+1) * P:=by
   rw [Nat.mul_assoc]
   exact Nat.lt_of_le_of_lt (Nat.le_trans (Nat.mul_le_mul_left _ hb1) hq1) ha2
  have h2:=Nat.lt_of_mul_lt_mul_right h1
  omega
theorem ap_up {c d x V:Nat} (h:Ap c x V) (hcd:c<=d):Ap d x V:=by
 obtain ⟨R,h1,h2,h3⟩:=h
 have:=Nat.mul_le_mul_right V hcd
 exact ⟨R,h1,Nat.le_trans h2 (Nat.add_le_add_left this _),Nat.le_trans h3 (Nat.add_le_add_left this _)⟩
theorem lt900 {n:Nat} (h:n < 1000000000):n < 2 ^ 900:=Nat.lt_of_lt_of_le (Nat.lt_trans h (by decide:1000000000 < 2 ^ 30)) (ple (a:=30) (b:=900) (by omega))
theorem b80 {n:Nat} (h:n < 1000000000000000000):n < 2 ^ 80:=Nat.lt_of_lt_of_le h (by decide)
theorem b110 {n:Nat} (h:n < 1000000000000000000000000000):n < 2 ^ 110:=Nat.lt_of_lt_of_le h (by decide)
theorem b95 {n:Nat} (h:n < 1000000000000000000000000000):n < 2 ^ 95:=Nat.lt_of_lt_of_le h (by decide)
theorem b31 {n:Nat} (h:n < 1000000000):n < 2 ^ 31:=Nat.lt_of_lt_of_le h (by decide)
theorem guess_ok {a b L:Nat} (hb:nl b=L+2) (hab:a < b * 1000000000):∃ m2 m2' m1 s1 tp n1 bt q:Nat,∃ g:Nat,
  floatBits .mul .f64 (floatOfInt .f64 (dg a (L+2):Nat)) 4741671816366391296=some m2/\floatBits .mul .f64 m2 4741671816366391296=some m2' ∧
  floatBits .mul .f64 (floatOfInt .f64 (dg a (L+1):Nat)) 4741671816366391296=some m1/\floatBits .add .f64 m2' m1=some s1/\floatBits .add .f64 s1 (floatOfInt .f64 (dg a L:Nat))=some tp ∧
  floatBits .mul .f64 (floatOfInt .f64 (dg b (L+1):Nat)) 4741671816366391296=some n1/\floatBits .add .f64 n1 (floatOfInt .f64 (dg b L:Nat))=some bt ∧
  floatBits .quo .f64 tp bt=some q/\floatToIntVal .f64 q .i64=some (g:Int)/\g<=a / b+3/\a / b<=g+3/\g<=2000000000:=by
 have hlt:=lt_nl b
 rw [hb] at hlt
 have ha3:a < pw (L+3):=by
  have:b * 1000000000 < pw (L+2) * 1000000000:=Nat.mul_lt_mul_of_pos_right hlt (by decide)
  rw [Nat.mul_comm (pw (L+2)),<-pw_succ] at this
  exact Nat.lt_trans hab this
 have hb1:pw (L+1)<=b:=lt_nl_iff.1 (by omega)
 have d2:=dg_lt a (L+2)
 have d1:=dg_lt a (L+1)
 have d0:=dg_lt a L
 have c1:=dg_lt b (L+1)
 have c0:=dg_lt b L
 have hy1:1<=dg b (L+1):=by
  rw [dg_top hlt]
  exact Nat.div_pos hb1 (pw_pos _)
 have hX:=top3 ha3
 have hY:=top2 hlt
 have hq:=quo_bounds (pw_pos L) hX hY (by omega) hab
 clear hX hY hb1 ha3 hlt hab hb
 revert hq
 generalize dg a (L+2)=x2 at *
 generalize dg a (L+1)=x1 at *
 generalize dg a L=x0 at *
 generalize dg b (L+1)=y1 at *
 generalize dg b L=y0 at *
 obtain ⟨m2,e1,p1⟩:=ap_mul (by decide) (ap_conv (lt900 d2)) (b80 (by omega))
 obtain ⟨m2',e2,p2⟩:=ap_mul (by decide) p1 (b80 (by omega))
 obtain ⟨m1,e3,p3⟩:=ap_mul (by decide) (ap_conv (lt900 d1)) (b80 (by omega))
 obtain ⟨s1,e4,p4⟩:=ap_add (by decide) (by decide) p2 p3 (b110 (by omega)) (b110 (by omega))
 obtain ⟨tp,e5,p5⟩:=ap_add (by decide) (by decide) p4 (ap_conv (lt900 d0)) (b110 (by omega)) (b110 (by omega))
 obtain ⟨n1,e6,p6⟩:=ap_mul (by decide) (ap_conv (lt900 c1)) (b80 (by omega))
 obtain ⟨bt,e7,p7⟩:=ap_add (by decide) (by decide) p6 (ap_conv (lt900 c0)) (b110 (by omega)) (b110 (by omega))
 have hXe:x2 * 1000000000 * 1000000000+x1 * 1000000000+x0=(x2 * 1000000000+x1) * 1000000000+x0:=by rw [Nat.add_mul]
 rw [hXe] at p5
 obtain ⟨q,T,e8,p8,t1,t2⟩:=ap_div (ap_up p5 (by decide)) (ap_up p7 (by decide)) (b95 (by omega)) (b95 (by omega)) (by omega)
 rintro ⟨k1,k2,k3,k4⟩
 have hT1:T / UU * UU<=T:=Nat.div_mul_le_self T UU
 have hT2:T<=(T / UU+1) * UU:=Nat.le_of_lt (Nat.lt_mul_of_div_lt (Nat.lt_succ_self _) pos_uu)
 have g1:=g_up pos_uu hT1 t1 k1 k2
 have g2:=g_dn pos_uu (by omega) hT2 t2 k3 (b31 k4)
 generalize a / b=qq at *
 refine ⟨m2,m2',m1,s1,tp,n1,bt,q,T / UU,e1,e2,e3,e4,e5,e6,e7,e8,?_,by omega,by omega,by omega⟩
 unfold floatToIntVal
 have:=rd_toInt p8
 have hd:FloatKind.f64.decode q=double.read q:=rfl
 rw [hd,this]
 simp only
 rw [if_pos]
 have e1:IntKind.i64.min=-9223372036854775808:=by decide
 have e2:IntKind.i64.max=9223372036854775807:=by decide
 rw [e1,e2]
 generalize T / UU=gg at *
 omega
end Go.Proofs.YtaflkgjckmfkoaaGreat.DW

namespace Go.Proofs.YtaflkgjckmfkoaaGreat.DW
open Go.RowKit
attribute [go_sem] cmpL_nat List.headD_cons Tryz.underlying152
theorem cmpN_le {a b:Nat}:cmpN a b<=0 ↔ a<=b:=by unfold cmpN; split<;>(try split)<;>omega
theorem cmpN_lt {a b:Nat}:cmpN a b < 0 ↔ a < b:=by unfold cmpN; split<;>(try split)<;>omega
theorem cmpN_ge {a b:Nat}:0<=cmpN a b ↔ b<=a:=by unfold cmpN; split<;>(try split)<;>omega
theorem nl_small {n:Nat} (h:n < 1000000000):nl n<=1:=nl_iff.2 h
theorem bin_mid {a b q m:Nat} (hb:0 < b) (hq:a / b=q):b * m<=a ↔ m<=q:=by
 rw [<-hq,Nat.le_div_iff_mul_le hb,Nat.mul_comm]
theorem div_lt9 {a b:Nat} (h:a < b * 1000000000):a / b < 1000000000:=by
 rcases Nat.eq_zero_or_pos b with rfl|hb
 ·simp at h
 ·rw [Nat.div_lt_iff_lt_mul hb,Nat.mul_comm]; exact h
theorem l02Digit_fn (a b:Nat) (hb:0 < b) (ha:nl a<=50000) (hb2:nl b<=50000) (hab:a < b * 1000000000):Fn Tryz.prog 183 [⟨tInts,natL a⟩,⟨tInts,natL b⟩] false [⟨.int,((a / b:Nat):Int)⟩]:=by
 have hq9:=div_lt9 hab
 generalize hq:a / b=q at *
 refine fn_enter tabOK mixes Tryz.func183 rfl rfl _ Tryz.ntmps183 _ Tryz.results183 (by simp) fun hwf=>?_
 try simp (maxSteps:=9^9) only[go_sem]
 refine LoopG.intro _ _ _ (fun x:Int × Int=>⟨[(0,.sl .int (natL a)),(1,.sl .int (natL b)),(5,.sc (.int .i64 x.1)),(6,.sc (.int .i64 x.2))],[]⟩) (fun x=>0<=x.1/\x.2<=999999999/\x.1<=q/\q<=x.2) (fun x=>(x.2 - x.1).toNat) (0,999999999) ?_ ⟨by simp,by simp,by simp,by simp only; omega⟩ ?_
 ·refine Wk.mk [] ?_
  try simp (maxSteps:=9^9) only[go_sem]
  try (and_intros<;>first|rfl|omega|exact ⟨_,rfl⟩)
 ·rintro ⟨lo,hi⟩ ⟨h1,h2,h3,h4⟩
  simp only at h1 h2 h3 h4
  try simp (maxSteps:=9^9) only[go_sem]
  refine CondW_dec (fun hA=>?_) (fun hA=>?_)
  ·try simp (maxSteps:=9^9) only[go_sem]
   repeat refine And.intro (by first|omega|(constructor<;>omega)|kernel_rfl) ?_
   refine QuoW.pos (by omega) (by omega) ?_
   obtain ⟨m,hm⟩:∃ m:Nat,(lo+hi+1) / 2=m:=⟨((lo+hi+1) / 2).toNat,by omega⟩
   rw [hm]
   try simp (maxSteps:=9^9) only[go_sem]
   repeat refine And.intro (by first|omega|(constructor<;>omega)|kernel_rfl) ?_
   refine CallW.mk (specNatOf_fn m) ?_
   try simp (maxSteps:=9^9) only[go_sem]
   repeat refine And.intro (by first|omega|(constructor<;>omega)|kernel_rfl) ?_
   refine CallW.mk (l02Mul_fn b m (by omega) (Nat.le_trans (nl_small (by omega)) (by omega))) ?_
   try simp (maxSteps:=9^9) only[go_sem]
   repeat refine And.intro (by first|omega|(constructor<;>omega)|kernel_rfl) ?_
   refine CallW.mk (l02Cmp_fn (natL (b * m)) (natL a)) ?_
   try simp (maxSteps:=9^9) only[go_sem]
   refine CondW_dec (fun hB=>?_) (fun hB=>?_)
   ·rw [cmpN_le,bin_mid hb hq] at hB
    try simp (maxSteps:=9^9) only[go_sem]
    refine LoopK.mk (m,hi) ?_ ⟨by simp only; omega,by simp only; omega,by simp only; omega,by simp only; omega⟩ (by simp only; omega)
    refine Wk.mk [] ?_
    try simp (maxSteps:=9^9) only[go_sem]
    try (and_intros<;>first|rfl|omega|exact ⟨_,rfl⟩)
   ·rw [cmpN_le,bin_mid hb hq] at hB
    try simp (maxSteps:=9^9) only[go_sem]
    repeat refine And.intro (by first|omega|(constructor<;>omega)|kernel_rfl) ?_
    refine LoopK.mk (lo,m - 1) ?_ ⟨by simp only; omega,by simp only; omega,by simp only; omega,by simp only; omega⟩ (by simp only; omega)
    refine Wk.mk [] ?_
    try simp (maxSteps:=9^9) only[go_sem]
    try (and_intros<;>first|rfl|omega|exact ⟨_,rfl⟩)
  ·try simp (maxSteps:=9^9) only[go_sem]
   omega
theorem digit_fn (a b:Nat) (hb:2<=nl b) (ha:nl a<=50000) (hb2:nl b<=50000) (hab:a < b * 1000000000):Fn Tryz.prog 145 [⟨tInts,natL a⟩,⟨tInts,natL b⟩] false [⟨.int,((a / b:Nat):Int)⟩]:=by
 obtain ⟨L,hL⟩:∃ L,nl b=L+2:=⟨nl b - 2,by omega⟩
 have hb0:0 < b:=Nat.pos_of_ne_zero fun h=>by rw [h,nl_zero] at hb; omega
 have hguess:=guess_ok hL hab
 rw [show L+2=nl b by omega,show L+1=((nl b:Int) - 1).toNat by omega,show L=((nl b:Int) - 2).toNat by omega] at hguess
 obtain ⟨m2,m2',m1,s1,tp,n1,bt,q',g,e1,e2,e3,e4,e5,e6,e7,e8,e9,g1,g2,g3⟩:=hguess
 clear hL
 have hq9:=div_lt9 hab
 generalize hq:a / b=q at *
 have hla:nl a<=nl b+1:=by
  rw [nl_iff,pw_succ]
  have:=lt_nl b
  omega
 have hA:(nl a:Int)<=nl b+1:=by omega
 refine fn_enter tabOK mixes Tryz.func145 rfl rfl _ Tryz.ntmps145 _ Tryz.results145 (by simp) fun hwf=>?_
 try simp (maxSteps:=9^9) only[go_sem,hA]
 repeat refine And.intro (by first|omega|(constructor<;>omega)|kernel_rfl) ?_
 refine CallW.mk (limb_fn (natL a) (nl b) (by omega)) ?_
 try simp (maxSteps:=9^9) only[go_sem]
 refine FloW.mk _ e1 ?_
 try simp (maxSteps:=9^9) only[go_sem]
 refine FloW.mk _ e2 ?_
 try simp (maxSteps:=9^9) only[go_sem]
 repeat refine And.intro (by first|omega|(constructor<;>omega)|kernel_rfl) ?_
 refine CallW.mk (limb_fn (natL a) ((nl b:Int) - 1) (by omega)) ?_
 try simp (maxSteps:=9^9) only[go_sem]
 refine FloW.mk _ e3 ?_
 try simp (maxSteps:=9^9) only[go_sem]
 refine FloW.mk _ e4 ?_
 try simp (maxSteps:=9^9) only[go_sem]
 repeat refine And.intro (by first|omega|(constructor<;>omega)|kernel_rfl) ?_
 refine CallW.mk (limb_fn (natL a) ((nl b:Int) - 2) (by omega)) ?_
 try simp (maxSteps:=9^9) only[go_sem]
 refine FloW.mk _ e5 ?_
 try simp (maxSteps:=9^9) only[go_sem]
 repeat refine And.intro (by first|omega|(constructor<;>omega)|kernel_rfl) ?_
 refine FloW.mk _ e6 ?_
 try simp (maxSteps:=9^9) only[go_sem]
 repeat refine And.intro (by first|omega|(constructor<;>omega)|kernel_rfl) ?_
 refine FloW.mk _ e7 ?_
 try simp (maxSteps:=9^9) only[go_sem]
 repeat refine And.intro (by first|omega|(constructor<;>omega)|kernel_rfl) ?_
 refine FloW.mk _ e8 ?_
 try simp (maxSteps:=9^9) only[go_sem]
 refine FtiW.mk _ e9 (by constructor<;>omega) ?_
 try simp (maxSteps:=9^9) only[go_sem]
 repeat refine And.intro (by first|omega|(constructor<;>omega)|kernel_rfl) ?_
 refine LoopG.intro _ _ _ (fun x:Int × Int=>⟨[(0,.sl .int (natL a)),(1,.sl .int (natL b)),(5,.sc (.int .i64 x.1)),(6,.sc (.int .i64 x.2))],[]⟩) (fun x=>0<=x.1/\x.2<=999999999/\x.1<=q/\q<=x.2) (fun x=>(x.2 - x.1).toNat) (max 0 ((g:Int) - 2000),min 999999999 ((g:Int)+2000)) ?_ ⟨by simp only; omega,by simp only; omega,by simp only; omega,by simp only; omega⟩ ?_
 ·refine Wk.mk [] ?_
  try simp (maxSteps:=9^9) only[go_sem]
  try (and_intros<;>first|rfl|omega|exact ⟨_,rfl⟩)
 ·rintro ⟨lo,hi⟩ ⟨h1,h2,h3,h4⟩
  simp only at h1 h2 h3 h4
  try simp (maxSteps:=9^9) only[go_sem]
  refine CondW_dec (fun hA=>?_) (fun hA=>?_)
  ·try simp (maxSteps:=9^9) only[go_sem]
   repeat refine And.intro (by first|omega|(constructor<;>omega)|kernel_rfl) ?_
   refine QuoW.pos (by omega) (by omega) ?_
   obtain ⟨m,hm⟩:∃ m:Nat,(lo+hi+1) / 2=m:=⟨((lo+hi+1) / 2).toNat,by omega⟩
   rw [hm]
   try simp (maxSteps:=9^9) only[go_sem]
   repeat refine And.intro (by first|omega|(constructor<;>omega)|kernel_rfl) ?_
   refine CallW.mk (implNatOf_fn m) ?_
   try simp (maxSteps:=9^9) only[go_sem]
   repeat refine And.intro (by first|omega|(constructor<;>omega)|kernel_rfl) ?_
   refine CallW.mk (natMul_fn b m (by omega) (Nat.le_trans (nl_small (by omega)) (by omega))) ?_
   try simp (maxSteps:=9^9) only[go_sem]
   repeat refine And.intro (by first|omega|(constructor<;>omega)|kernel_rfl) ?_
   refine CallW.mk (natCmp_fn (natL (b * m)) (natL a)) ?_
   try simp (maxSteps:=9^9) only[go_sem]
   refine CondW_dec (fun hB=>?_) (fun hB=>?_)
   ·rw [cmpN_le,bin_mid hb0 hq] at hB
    try simp (maxSteps:=9^9) only[go_sem]
    refine LoopK.mk (m,hi) ?_ ⟨by simp only; omega,by simp only; omega,by simp only; omega,by simp only; omega⟩ (by simp only; omega)
    refine Wk.mk [] ?_
    try simp (maxSteps:=9^9) only[go_sem]
    try (and_intros<;>first|rfl|omega|exact ⟨_,rfl⟩)
   ·rw [cmpN_le,bin_mid hb0 hq] at hB
    try simp (maxSteps:=9^9) only[go_sem]
    repeat refine And.intro (by first|omega|(constructor<;>omega)|kernel_rfl) ?_
    refine LoopK.mk (lo,m - 1) ?_ ⟨by simp only; omega,by simp only; omega,by simp only; omega,by simp only; omega⟩ (by simp only; omega)
    refine Wk.mk [] ?_
    try simp (maxSteps:=9^9) only[go_sem]
    try (and_intros<;>first|rfl|omega|exact ⟨_,rfl⟩)
  ·try simp (maxSteps:=9^9) only[go_sem]
   omega
end Go.Proofs.YtaflkgjckmfkoaaGreat.DW

namespace Go.Proofs.YtaflkgjckmfkoaaGreat.DW
open Go.RowKit
theorem ni_set_self {l:List Int} {i:Nat} {d:Int} (h:i < l.length):ni (l.set i d) i=d:=by
 rw [ni_lt (by simpa using h)]; simp
theorem trim_shift (d r:Nat) (h:d < 1000000000):trimL ((d:Int) :: natL r)=natL (r * 1000000000+d):=by
 show trimL ([(d:Int)]++natL r)=_
 rw [trimL_val (lims_app (lims_one (by omega) (by omega)) (lims_natL r)),val_app,val_one,val_natL,Int.toNat_natCast]
 congr 1
 show d+pw 1 * r=_
 rw [pw_one]; omega
theorem trimmed_shift (d r:Nat) (h:d < 1000000000):Fn Tryz.prog 111 [⟨tInts,(d:Int) :: natL r⟩] false [⟨tInts,natL (r * 1000000000+d)⟩]:=by
 have:=trimmed_fn ((d:Int) :: natL r)
 rw [trim_shift d r h] at this
 exact this
theorem l02Trim_shift (d r:Nat) (h:d < 1000000000):Fn Tryz.prog 168 [⟨tInts,(d:Int) :: natL r⟩] false [⟨tInts,natL (r * 1000000000+d)⟩]:=by
 have:=l02Trim_fn ((d:Int) :: natL r)
 rw [trim_shift d r h] at this
 exact this
theorem nl_shift {r b d:Nat} (hr:r < b) (hd:d < 1000000000):r * 1000000000+d < b * 1000000000/\nl (r * 1000000000+d)<=nl b+1:=by
 refine ⟨by omega,?_⟩
 rw [nl_iff,pw_succ]
 have:=lt_nl b
 omega
theorem dg_one {b:Nat} (h:nl b=1):dg b 0=b:=by
 rw [dg_zero]; exact Nat.mod_eq_of_lt (nl_iff.1 (by omega:nl b<=1))
theorem natDiv_fn (a b:Nat) (hb0:0 < b) (ha:nl a<=40000) (hb:nl b<=40000):Fn Tryz.prog 108 [⟨tInts,natL a⟩,⟨tInts,natL b⟩] false [⟨tInts,natL (a / b)⟩,⟨tInts,natL (a % b)⟩]:=by
 have hbn:nl b ≠ 0:=fun h=>by rw [nl_eq_zero.1 h] at hb0; omega
 refine fn_enter tabOK mixes Tryz.func108 rfl rfl _ Tryz.ntmps108 _ Tryz.results108 (by simp) fun hwf=>?_
 try simp (maxSteps:=9^9) only[go_sem]
 repeat refine And.intro (by first|omega|(constructor<;>omega)|kernel_rfl) ?_
 refine CallW.mk (natCmp_fn (natL a) (natL b)) ?_
 try simp (maxSteps:=9^9) only[go_sem]
 refine CondW_dec (fun hA=>?_) (fun hA=>?_)
 ·rw [cmpN_lt] at hA
  try simp (maxSteps:=9^9) only[go_sem]
  rw [Nat.div_eq_of_lt hA,Nat.mod_eq_of_lt hA,natL_zero]
  exact ⟨rfl,rfl⟩
 ·rw [cmpN_lt] at hA
  try simp (maxSteps:=9^9) only[go_sem]
  refine CondW_dec (fun hB=>?_) (fun hB=>?_)
  ·have h1:nl b=1:=by omega
   have hb9:b < 1000000000:=nl_iff.1 (by omega:nl b<=1)
   try simp (maxSteps:=9^9) only[go_sem,hB]
   rw [dg_one h1]
   repeat refine And.intro (by first|omega|(constructor<;>omega)|kernel_rfl) ?_
   refine CallW.mk (natDivSmall_fn a b hb0 hb9 (by omega)) ?_
   try simp (maxSteps:=9^9) only[go_sem]
   repeat refine And.intro (by first|omega|(constructor<;>omega)|kernel_rfl) ?_
   refine CallW.mk (implNatOf_fn ((a % b:Nat):Int)) ?_
   try simp (maxSteps:=9^9) only[go_sem]
  ·have hb2:2<=nl b:=by omega
   try simp (maxSteps:=9^9) only[go_sem,hB]
   repeat refine And.intro (by first|omega|(constructor<;>omega)|kernel_rfl) ?_
   refine LoopG.intro _ _ _ (fun x:Nat × List Int=>⟨[(0,.sl .int (natL a)),(1,.sl .int (natL b)),(8,.row 0 0),(9,.sl .int (natL (a / pw x.1 % b))),(10,.sc (.int .i64 ((x.1:Int) - 1)))],[(0,.row 3 .int 0 true x.2)]⟩) (fun x=>x.1<=nl a/\lims x.2/\x.2.length=nl a/\val x.2=pw x.1 * (a / pw x.1 / b)) (fun x=>x.1) (nl a,List.replicate (nl a) 0) ?_ ⟨by simp,lims_rep _,by simp,by simp [val_rep,Nat.div_eq_of_lt (lt_nl a)]⟩ ?_
   ·refine Wk.mk [] ?_
    try simp (maxSteps:=9^9) only[go_sem]
    try (and_intros<;>first|rfl|omega|exact ⟨_,rfl⟩)
    all_goals (simp [Nat.div_eq_of_lt (lt_nl a),natL_zero])
   ·rintro ⟨t,out⟩ ⟨h1,h2,h3,h4⟩
    simp only at h1 h2 h3 h4
    try simp (maxSteps:=9^9) only[go_sem]
    refine CondW_dec (fun hC=>?_) (fun hC=>?_)
    ·obtain ⟨i,rfl⟩:∃ i,t=i+1:=⟨t - 1,by omega⟩
     have hd1:=dg_lt a i
     have hml:=Nat.mod_lt (a / pw (i+1)) hb0
     obtain ⟨s1,s2,s3⟩:=small_step (a:=a) (i:=i) hb0
     obtain ⟨s4,s5⟩:=small_set h2 (show i < out.length by omega) s3 h4
     have ei:((i+1:Nat):Int) - 1=i:=by omega
     obtain ⟨hr9,hrl⟩:=nl_shift hml hd1
     have hml2:nl (a / pw (i+1) % b)<=nl b:=nl_mono (Nat.le_of_lt hml)
     try simp (maxSteps:=9^9) only[go_sem,ei]
     repeat refine And.intro (by first|omega|(constructor<;>omega)|kernel_rfl) ?_
     try simp (maxSteps:=9^9) only[go_sem]
     repeat refine And.intro (by first|omega|(constructor<;>omega)|kernel_rfl) ?_
     refine CallW.mk (trimmed_shift (dg a i) (a / pw (i+1) % b) hd1) ?_
     try simp (maxSteps:=9^9) only[go_sem]
     generalize hR:a / pw (i+1) % b * 1000000000+dg a i=R at *
     repeat refine And.intro (by first|omega|(constructor<;>omega)|kernel_rfl) ?_
     refine CallW.mk (natCmp_fn (natL R) (natL b)) ?_
     try simp (maxSteps:=9^9) only[go_sem]
     refine CondW_dec (fun hD=>?_) (fun hD=>?_)
     ·rw [cmpN_ge] at hD
      try simp (maxSteps:=9^9) only[go_sem]
      repeat refine And.intro (by first|omega|(constructor<;>omega)|kernel_rfl) ?_
      refine CallW.mk (digit_fn R b hb2 (by omega) (by omega) hr9) ?_
      try simp (maxSteps:=9^9) only[go_sem]
      repeat refine And.intro (by first|omega|(constructor<;>omega)|kernel_rfl) ?_
      rw [ni_set_self (by omega)]
      repeat refine And.intro (by first|omega|(constructor<;>omega)|kernel_rfl) ?_
      refine CallW.mk (implNatOf_fn ((R / b:Nat):Int)) ?_
      try simp (maxSteps:=9^9) only[go_sem]
      repeat refine And.intro (by first|omega|(constructor<;>omega)|kernel_rfl) ?_
      refine CallW.mk (natMul_fn b (R / b) (by omega) (Nat.le_trans (nl_small s3) (by omega))) ?_
      try simp (maxSteps:=9^9) only[go_sem]
      repeat refine And.intro (by first|omega|(constructor<;>omega)|kernel_rfl) ?_
      refine CallW.mk (natSub_fn R (b * (R / b)) (Nat.mul_div_le R b) (by omega)) ?_
      try simp (maxSteps:=9^9) only[go_sem]
      repeat refine And.intro (by first|omega|(constructor<;>omega)|kernel_rfl) ?_
      refine LoopK.mk (i,out.set i ((R / b:Nat):Int)) ?_ ⟨by simp only; omega,s4,by simp [h3],by simp only; rw [s5,s2]⟩ (by simp only; omega)
      refine Wk.mk [] ?_
      try simp (maxSteps:=9^9) only[go_sem]
      try (and_intros<;>first|rfl|omega|exact ⟨_,rfl⟩)
      all_goals (have e:R - b * (R / b)=R % b:=(by have:=Nat.mod_add_div R b; omega); rw [e,s1])
     ·rw [cmpN_ge] at hD
      try simp (maxSteps:=9^9) only[go_sem]
      repeat refine And.intro (by first|omega|(constructor<;>omega)|kernel_rfl) ?_
      have hq0:R / b=0:=Nat.div_eq_of_lt (by omega)
      rw [hq0] at s2 s5
      refine LoopK.mk (i,out) ?_ ⟨by simp only; omega,h2,by simp [h3],by simp only; rw [h4,s2,pw_succ]; simp only [Nat.add_zero]; ac_rfl⟩ (by simp only; omega)
      refine Wk.mk [] ?_
      try simp (maxSteps:=9^9) only[go_sem]
      try (and_intros<;>first|rfl|omega|exact ⟨_,rfl⟩)
      all_goals (rw [<-s1,Nat.mod_eq_of_lt (by omega)])
    ·have ht:t=0:=by omega
     subst ht
     try simp (maxSteps:=9^9) only[go_sem,hC]
     repeat refine And.intro (by first|omega|(constructor<;>omega)|kernel_rfl) ?_
     refine CallW.mk (trimmed_fn out) ?_
     try simp (maxSteps:=9^9) only[go_sem]
     rw [trimL_val h2,h4,pw_zero,Nat.div_one,Nat.one_mul]
     exact ⟨rfl,rfl⟩
theorem l02Div_fn (a b:Nat) (hb0:0 < b) (ha:nl a<=40000) (hb:nl b<=40000):Fn Tryz.prog 164 [⟨tInts,natL a⟩,⟨tInts,natL b⟩] false [⟨tInts,natL (a / b)⟩,⟨tInts,natL (a % b)⟩]:=by
 have hbn:nl b ≠ 0:=fun h=>by rw [nl_eq_zero.1 h] at hb0; omega
 refine fn_enter tabOK mixes Tryz.func164 rfl rfl _ Tryz.ntmps164 _ Tryz.results164 (by simp) fun hwf=>?_
 try simp (maxSteps:=9^9) only[go_sem]
 refine CondW_dec (fun hB=>?_) (fun hB=>?_)
 ·have h1:nl b=1:=by omega
  have hb9:b < 1000000000:=nl_iff.1 (by omega:nl b<=1)
  try simp (maxSteps:=9^9) only[go_sem,hB]
  rw [dg_one h1]
  repeat refine And.intro (by first|omega|(constructor<;>omega)|kernel_rfl) ?_
  refine CallW.mk (l02Small_fn a b hb0 hb9 (by omega)) ?_
  try simp (maxSteps:=9^9) only[go_sem]
  repeat refine And.intro (by first|omega|(constructor<;>omega)|kernel_rfl) ?_
  refine CallW.mk (specNatOf_fn ((a % b:Nat):Int)) ?_
  try simp (maxSteps:=9^9) only[go_sem]
 ·have hb2:2<=nl b:=by omega
  try simp (maxSteps:=9^9) only[go_sem,hB]
  repeat refine And.intro (by first|omega|(constructor<;>omega)|kernel_rfl) ?_
  refine LoopG.intro _ _ _ (fun x:Nat × List Int=>⟨[(0,.sl .int (natL a)),(1,.sl .int (natL b)),(8,.row 0 0),(9,.sl .int (natL (a / pw x.1 % b))),(10,.sc (.int .i64 ((x.1:Int) - 1)))],[(0,.row 3 .int 0 true x.2)]⟩) (fun x=>x.1<=nl a/\lims x.2/\x.2.length=nl a/\val x.2=pw x.1 * (a / pw x.1 / b)) (fun x=>x.1) (nl a,List.replicate (nl a) 0) ?_ ⟨by simp,lims_rep _,by simp,by simp [val_rep,Nat.div_eq_of_lt (lt_nl a)]⟩ ?_
  ·refine Wk.mk [] ?_
   try simp (maxSteps:=9^9) only[go_sem]
   try (and_intros<;>first|rfl|omega|exact ⟨_,rfl⟩)
   all_goals (simp [Nat.div_eq_of_lt (lt_nl a),natL_zero])
  ·rintro ⟨t,out⟩ ⟨h1,h2,h3,h4⟩
   simp only at h1 h2 h3 h4
   try simp (maxSteps:=9^9) only[go_sem]
   refine CondW_dec (fun hC=>?_) (fun hC=>?_)
   ·obtain ⟨i,rfl⟩:∃ i,t=i+1:=⟨t - 1,by omega⟩
    have hd1:=dg_lt a i
    have hml:=Nat.mod_lt (a / pw (i+1)) hb0
    obtain ⟨s1,s2,s3⟩:=small_step (a:=a) (i:=i) hb0
    obtain ⟨s4,s5⟩:=small_set h2 (show i < out.length by omega) s3 h4
    have ei:((i+1:Nat):Int) - 1=i:=by omega
    obtain ⟨hr9,hrl⟩:=nl_shift hml hd1
    have hml2:nl (a / pw (i+1) % b)<=nl b:=nl_mono (Nat.le_of_lt hml)
    try simp (maxSteps:=9^9) only[go_sem,ei]
    repeat refine And.intro (by first|omega|(constructor<;>omega)|kernel_rfl) ?_
    try simp (maxSteps:=9^9) only[go_sem]
    repeat refine And.intro (by first|omega|(constructor<;>omega)|kernel_rfl) ?_
    refine CallW.mk (l02Trim_shift (dg a i) (a / pw (i+1) % b) hd1) ?_
    try simp (maxSteps:=9^9) only[go_sem]
    generalize hR:a / pw (i+1) % b * 1000000000+dg a i=R at *
    repeat refine And.intro (by first|omega|(constructor<;>omega)|kernel_rfl) ?_
    refine CallW.mk (l02Cmp_fn (natL R) (natL b)) ?_
    try simp (maxSteps:=9^9) only[go_sem]
    refine CondW_dec (fun hD=>?_) (fun hD=>?_)
    ·rw [cmpN_lt] at hD
     try simp (maxSteps:=9^9) only[go_sem]
     repeat refine And.intro (by first|omega|(constructor<;>omega)|kernel_rfl) ?_
     have hq0:R / b=0:=Nat.div_eq_of_lt (by omega)
     rw [hq0] at s2 s5
     refine LoopK.mk (i,out) ?_ ⟨by simp only; omega,h2,by simp [h3],by simp only; rw [h4,s2,pw_succ]; simp only [Nat.add_zero]; ac_rfl⟩ (by simp only; omega)
     refine Wk.mk [] ?_
     try simp (maxSteps:=9^9) only[go_sem]
     try (and_intros<;>first|rfl|omega|exact ⟨_,rfl⟩)
     all_goals (rw [<-s1,Nat.mod_eq_of_lt (by omega)])
    ·rw [cmpN_lt] at hD
     try simp (maxSteps:=9^9) only[go_sem]
     repeat refine And.intro (by first|omega|(constructor<;>omega)|kernel_rfl) ?_
     refine CallW.mk (l02Digit_fn R b hb0 (by omega) (by omega) hr9) ?_
     try simp (maxSteps:=9^9) only[go_sem]
     repeat refine And.intro (by first|omega|(constructor<;>omega)|kernel_rfl) ?_
     refine CallW.mk (specNatOf_fn ((R / b:Nat):Int)) ?_
     try simp (maxSteps:=9^9) only[go_sem]
     repeat refine And.intro (by first|omega|(constructor<;>omega)|kernel_rfl) ?_
     refine CallW.mk (l02Mul_fn b (R / b) (by omega) (Nat.le_trans (nl_small s3) (by omega))) ?_
     try simp (maxSteps:=9^9) only[go_sem]
     repeat refine And.intro (by first|omega|(constructor<;>omega)|kernel_rfl) ?_
     refine CallW.mk (l02Sub_fn R (b * (R / b)) (Nat.mul_div_le R b) (by omega)) ?_
     try simp (maxSteps:=9^9) only[go_sem]
     repeat refine And.intro (by first|omega|(constructor<;>omega)|kernel_rfl) ?_
     refine LoopK.mk (i,out.set i ((R / b:Nat):Int)) ?_ ⟨by simp only; omega,s4,by simp [h3],by simp only; rw [s5,s2]⟩ (by simp only; omega)
     refine Wk.mk [] ?_
     try simp (maxSteps:=9^9) only[go_sem]
     try (and_intros<;>first|rfl|omega|exact ⟨_,rfl⟩)
     all_goals (have e:R - b * (R / b)=R % b:=(by have:=Nat.mod_add_div R b; omega); rw [e,s1])
   ·have ht:t=0:=by omega
    subst ht
    try simp (maxSteps:=9^9) only[go_sem,hC]
    repeat refine And.intro (by first|omega|(constructor<;>omega)|kernel_rfl) ?_
    refine CallW.mk (l02Trim_fn out) ?_
    try simp (maxSteps:=9^9) only[go_sem]
    rw [trimL_val h2,h4,pw_zero,Nat.div_one,Nat.one_mul]
    exact ⟨rfl,rfl⟩
end Go.Proofs.YtaflkgjckmfkoaaGreat.DW

namespace Go.Proofs.YtaflkgjckmfkoaaGreat.DW
open Go.RowKit
theorem okN_natL {n:Nat} (h:nl n<=60):okN (natL n)=true:=bdec_t (okNP_natL.2 h)
theorem natL_one {n:Nat} (h:0 < n) (h2:n < 1000000000):natL n=[(n:Int)]:=by
 rw [natL_pos h,Nat.mod_eq_of_lt h2,Nat.div_eq_of_lt h2,natL_zero]
theorem natL_maxInt:natL 9223372036854775807=[854775807,223372036,9]:=by
 rw [natL_pos (by decide),natL_pos (by decide),natL_pos (by decide),natL_zero]; rfl
theorem div_le_i64 {a:Nat} (h:a<=9223372036854775807) (t:Nat):a / pw t<=9223372036854775807:=Nat.le_trans (Nat.div_le_self a _) h
theorem specNatToInt_fn (a:Nat) (ha:nl a<=60):Fn Tryz.prog 162 [⟨tInts,natL a⟩] false [⟨.int,if a<=9223372036854775807 then (a:Int) else 0⟩,⟨.bool,decide (a<=9223372036854775807)⟩]:=by
 refine fn_enter tabOK mixes Tryz.func162 rfl rfl _ Tryz.ntmps162 _ Tryz.results162 (by simp) fun hwf=>?_
 try simp (maxSteps:=9^9) only[go_sem]
 repeat refine And.intro (by first|omega|(constructor<;>omega)|kernel_rfl) ?_
 refine CallW.mk (specNatOk_fn (natL a)) ?_
 try simp (maxSteps:=9^9) only[go_sem]
 have hok:=okN_natL ha
 try simp (maxSteps:=9^9) only[go_sem,hok,Bool.not_true]
 have hcmp:=l02Cmp_fn (natL a) [854775807,223372036,9]
 rw [<-natL_maxInt,cmpL_nat,natL_maxInt] at hcmp
 repeat refine And.intro (by first|omega|(constructor<;>omega)|kernel_rfl) ?_
 refine CallW.mk (hcmp) ?_
 try simp (maxSteps:=9^9) only[go_sem]
 by_cases hA:a<=9223372036854775807
 ·have hB:¬ 0 < cmpN a 9223372036854775807:=by unfold cmpN; split<;>(try split)<;>omega
  try simp (maxSteps:=9^9) only[go_sem,hB,hA]
  repeat refine And.intro (by first|omega|(constructor<;>omega)|kernel_rfl) ?_
  refine LoopG.intro _ _ _ (fun t:Nat=>⟨[(0,.sl .int (natL a)),(4,.sc (.int .i64 (a / pw t:Nat))),(5,.sc (.int .i64 ((t:Int) - 1)))],[]⟩) (fun t=>t<=nl a) (fun t=>t) (nl a) ?_ (Nat.le_refl _) ?_
  ·refine Wk.mk [] ?_
   try simp (maxSteps:=9^9) only[go_sem]
   try (and_intros<;>first|rfl|omega|exact ⟨_,rfl⟩)
   all_goals (simp [Nat.div_eq_of_lt (lt_nl a)])
  ·rintro t h1
   try simp (maxSteps:=9^9) only[go_sem]
   refine CondW_dec (fun hC=>?_) (fun hC=>?_)
   ·obtain ⟨i,rfl⟩:∃ i,t=i+1:=⟨t - 1,by omega⟩
    have hd1:=dg_lt a i
    have hi:=div_pw_succ a i
    have hle:=div_le_i64 hA i
    have ei:((i+1:Nat):Int) - 1=i:=by omega
    generalize a / pw (i+1)=q at *
    try simp (maxSteps:=9^9) only[go_sem,ei]
    repeat refine And.intro (by first|omega|(constructor<;>omega)|kernel_rfl) ?_
    refine LoopK.mk i ?_ (by omega) (by omega)
    refine Wk.mk [] ?_
    try simp (maxSteps:=9^9) only[go_sem]
    try (and_intros<;>first|rfl|omega|exact ⟨_,rfl⟩)
   ·have ht:t=0:=by omega
    subst ht
    try simp (maxSteps:=9^9) only[go_sem,hC,hA]
    rw [pw_zero,Nat.div_one]
 ·have hB:0 < cmpN a 9223372036854775807:=by unfold cmpN; split<;>(try split)<;>omega
  try simp (maxSteps:=9^9) only[go_sem,hB,hA]
theorem gcd_step {x y a b:Nat} (h:Nat.gcd x y=Nat.gcd a b):Nat.gcd y (x % y)=Nat.gcd a b:=by
 rw [<-h,Nat.gcd_comm x y,Nat.gcd_rec y x,Nat.gcd_comm]
theorem l02Plain_fn (a b:Nat) (ha:a<=9223372036854775807) (hb:b<=9223372036854775807):Fn Tryz.prog 163 [⟨.int,(a:Int)⟩,⟨.int,(b:Int)⟩] false [⟨tInts,natL (Nat.gcd a b)⟩]:=by
 refine fn_enter tabOK mixes Tryz.func163 rfl rfl _ Tryz.ntmps163 _ Tryz.results163 (by simp) fun hwf=>?_
 try simp (maxSteps:=9^9) only[go_sem]
 refine LoopG.intro _ _ _ (fun x:Nat × Nat=>⟨[(0,.sc (.int .i64 x.1)),(1,.sc (.int .i64 x.2))],[]⟩) (fun x=>Nat.gcd x.1 x.2=Nat.gcd a b/\x.1<=9223372036854775807/\x.2<=9223372036854775807) (fun x=>x.2) (a,b) ?_ ⟨rfl,ha,hb⟩ ?_
 ·refine Wk.mk [] ?_
  try simp (maxSteps:=9^9) only[go_sem]
  try (and_intros<;>first|rfl|omega|exact ⟨_,rfl⟩)
 ·rintro ⟨x,y⟩ ⟨h1,h2,h3⟩
  simp only at h1 h2 h3
  try simp (maxSteps:=9^9) only[go_sem]
  refine CondW_dec (fun hA=>?_) (fun hA=>?_)
  ·have hy:0 < y:=by omega
   have hml:=Nat.mod_lt x hy
   try simp (maxSteps:=9^9) only[go_sem]
   refine RemW.pos (by omega) (by omega) ?_
   try simp (maxSteps:=9^9) only[go_sem]
   refine LoopK.mk (y,x % y) ?_ ⟨gcd_step h1,h3,by simp only; omega⟩ (by simp only; omega)
   refine Wk.mk [] ?_
   try simp (maxSteps:=9^9) only[go_sem]
   try (and_intros<;>first|rfl|omega|exact ⟨_,rfl⟩)
  ·have hy:y=0:=by omega
   subst hy
   try simp (maxSteps:=9^9) only[go_sem]
   repeat refine And.intro (by first|omega|(constructor<;>omega)|kernel_rfl) ?_
   refine CallW.mk (specNatOf_fn (x:Int)) ?_
   try simp (maxSteps:=9^9) only[go_sem]
   rw [Nat.gcd_zero_right] at h1
   rw [h1]
theorem l02Gcd_fn (a b:Nat) (ha:nl a<=60) (hb:nl b<=60):Fn Tryz.prog 139 [⟨tInts,natL a⟩,⟨tInts,natL b⟩] false [⟨tInts,natL (Nat.gcd a b)⟩]:=by
 refine fn_enter tabOK mixes Tryz.func139 rfl rfl _ Tryz.ntmps139 _ Tryz.results139 (by simp) fun hwf=>?_
 try simp (maxSteps:=9^9) only[go_sem]
 repeat refine And.intro (by first|omega|(constructor<;>omega)|kernel_rfl) ?_
 try simp (maxSteps:=9^9) only[go_sem]
 repeat refine And.intro (by first|omega|(constructor<;>omega)|kernel_rfl) ?_
 refine LoopG.intro _ _ _ (fun x:Nat × Nat=>⟨[(5,.sl .int (natL x.1)),(6,.sl .int (natL x.2))],[]⟩) (fun x=>Nat.gcd x.1 x.2=Nat.gcd a b/\nl x.1<=60/\nl x.2<=60) (fun x=>x.2) (a,b) ?_ ⟨rfl,ha,hb⟩ ?_
 ·refine Wk.mk [] ?_
  try simp (maxSteps:=9^9) only[go_sem]
  try (and_intros<;>first|rfl|omega|exact ⟨_,rfl⟩)
 ·rintro ⟨x,y⟩ ⟨h1,h2,h3⟩
  simp only at h1 h2 h3
  by_cases hy:y=0
  ·subst hy
   have hA:¬ (0:Int) < (nl 0:Nat):=by rw [nl_zero]; omega
   rw [Nat.gcd_zero_right] at h1
   try simp (maxSteps:=9^9) only[go_sem,hA]
   rw [h1]
  ·have hA:(0:Int) < (nl y:Nat):=by have:=(nl_le y hy).1; omega
   by_cases hs:(nl x:Int) < 3/\(nl y:Int) < 3
   ·obtain ⟨hB,hC⟩:=hs
    have hx9:x<=9223372036854775807:=by have:=(nl_iff (k:=2)).1 (show nl x<=2 by omega); have e:pw 2=1000000000000000000:=rfl; omega
    have hy9:y<=9223372036854775807:=by have:=(nl_iff (k:=2)).1 (show nl y<=2 by omega); have e:pw 2=1000000000000000000:=rfl; omega
    try simp (maxSteps:=9^9) only[go_sem,hA,hB,hC]
    repeat refine And.intro (by first|omega|(constructor<;>omega)|kernel_rfl) ?_
    refine CallW.mk (specNatToInt_fn x h2) ?_
    try simp (maxSteps:=9^9) only[go_sem]
    repeat refine And.intro (by first|omega|(constructor<;>omega)|kernel_rfl) ?_
    refine CallW.mk (specNatToInt_fn y h3) ?_
    try simp (maxSteps:=9^9) only[go_sem]
    try simp (maxSteps:=9^9) only[go_sem,hx9,hy9]
    repeat refine And.intro (by first|omega|(constructor<;>omega)|kernel_rfl) ?_
    refine CallW.mk (l02Plain_fn x y hx9 hy9) ?_
    try simp (maxSteps:=9^9) only[go_sem]
    rw [h1]
   ·have hp:¬ (nl x:Int) < 3\/((nl x:Int) < 3/\¬ (nl y:Int) < 3):=by omega
    have hml:=Nat.mod_lt x (Nat.pos_of_ne_zero hy)
    have hm2:=nl_mono (Nat.le_of_lt hml)
    rcases hp with hB|⟨hB,hC⟩
    ·try simp (maxSteps:=9^9) only[go_sem,hA,hB]
     repeat refine And.intro (by first|omega|(constructor<;>omega)|kernel_rfl) ?_
     refine CallW.mk (l02Div_fn x y (Nat.pos_of_ne_zero hy) (by omega) (by omega)) ?_
     try simp (maxSteps:=9^9) only[go_sem]
     refine LoopK.mk (y,x % y) ?_ ⟨gcd_step h1,h3,by simp only; omega⟩ (by simp only; omega)
     refine Wk.mk [] ?_
     try simp (maxSteps:=9^9) only[go_sem]
     try (and_intros<;>first|rfl|omega|exact ⟨_,rfl⟩)
    ·try simp (maxSteps:=9^9) only[go_sem,hA,hB,hC]
     repeat refine And.intro (by first|omega|(constructor<;>omega)|kernel_rfl) ?_
     refine CallW.mk (l02Div_fn x y (Nat.pos_of_ne_zero hy) (by omega) (by omega)) ?_
     try simp (maxSteps:=9^9) only[go_sem]
     refine LoopK.mk (y,x % y) ?_ ⟨gcd_step h1,h3,by simp only; omega⟩ (by simp only; omega)
     refine Wk.mk [] ?_
     try simp (maxSteps:=9^9) only[go_sem]
     try (and_intros<;>first|rfl|omega|exact ⟨_,rfl⟩)
theorem natGcd_fn (a b:Nat) (ha:nl a<=30000) (hb:nl b<=30000):Fn Tryz.prog 80 [⟨tInts,natL a⟩,⟨tInts,natL b⟩] false [⟨tInts,natL (Nat.gcd a b)⟩]:=by
 refine fn_enter tabOK mixes Tryz.func80 rfl rfl _ Tryz.ntmps80 _ Tryz.results80 (by simp) fun hwf=>?_
 try simp (maxSteps:=9^9) only[go_sem]
 refine LoopG.intro _ _ _ (fun x:Nat × Nat=>⟨[(0,.sl .int (natL x.1)),(1,.sl .int (natL x.2))],[]⟩) (fun x=>Nat.gcd x.1 x.2=Nat.gcd a b/\nl x.1<=30000/\nl x.2<=30000) (fun x=>x.2) (a,b) ?_ ⟨rfl,ha,hb⟩ ?_
 ·refine Wk.mk [] ?_
  try simp (maxSteps:=9^9) only[go_sem]
  try (and_intros<;>first|rfl|omega|exact ⟨_,rfl⟩)
 ·rintro ⟨x,y⟩ ⟨h1,h2,h3⟩
  simp only at h1 h2 h3
  by_cases hA:(1:Int) < (nl y:Nat)
  ·have hy:0 < y:=Nat.pos_of_ne_zero fun h=>by rw [h,nl_zero] at hA; omega
   have hml:=Nat.mod_lt x hy
   have hm2:=nl_mono (Nat.le_of_lt hml)
   try simp (maxSteps:=9^9) only[go_sem,hA]
   repeat refine And.intro (by first|omega|(constructor<;>omega)|kernel_rfl) ?_
   refine CallW.mk (natDiv_fn x y hy (by omega) (by omega)) ?_
   try simp (maxSteps:=9^9) only[go_sem]
   refine LoopK.mk (y,x % y) ?_ ⟨gcd_step h1,h3,by simp only; omega⟩ (by simp only; omega)
   refine Wk.mk [] ?_
   try simp (maxSteps:=9^9) only[go_sem]
   try (and_intros<;>first|rfl|omega|exact ⟨_,rfl⟩)
  ·by_cases hy:y=0
   ·subst hy
    have hB:(nl 0:Int)=0:=by rw [nl_zero]; rfl
    rw [Nat.gcd_zero_right] at h1
    try simp (maxSteps:=9^9) only[go_sem,hA,hB]
    rw [h1]
   ·have hB:¬ (nl y:Int)=0:=by have:=(nl_le y hy).1; omega
    have h4:nl y=1:=by omega
    have hy9:y < 1000000000:=nl_iff.1 (by omega:nl y<=1)
    have hml:=Nat.mod_lt x (Nat.pos_of_ne_zero hy)
    try simp (maxSteps:=9^9) only[go_sem,hA,hB]
    repeat refine And.intro (by first|omega|(constructor<;>omega)|kernel_rfl) ?_
    have hsm:=natDivSmall_fn x y (Nat.pos_of_ne_zero hy) hy9 (by omega)
    rw [<-dg_one h4] at hsm
    repeat refine And.intro (by first|omega|(constructor<;>omega)|kernel_rfl) ?_
    refine CallW.mk (hsm) ?_
    try simp (maxSteps:=9^9) only[go_sem]
    repeat refine And.intro (by first|omega|(constructor<;>omega)|kernel_rfl) ?_
    rw [dg_one h4]
    refine LoopG.intro _ _ _ (fun z:Nat × Nat=>⟨[(8,.sc (.int .i64 z.2)),(9,.sc (.int .i64 z.1))],[]⟩) (fun z=>Nat.gcd z.1 z.2=Nat.gcd a b/\0 < z.1/\z.1 < 1000000000/\z.2 < 1000000000) (fun z=>z.2) (y,x % y) ?_ ⟨gcd_step h1,Nat.pos_of_ne_zero hy,hy9,by simp only; omega⟩ ?_
    ·refine Wk.mk [] ?_
     try simp (maxSteps:=9^9) only[go_sem]
     try (and_intros<;>first|rfl|omega|exact ⟨_,rfl⟩)
    ·rintro ⟨u,v⟩ ⟨g1,g2,g3,g4⟩
     simp only at g1 g2 g3 g4
     try simp (maxSteps:=9^9) only[go_sem]
     refine CondW_dec (fun hC=>?_) (fun hC=>?_)
     ·have hv:0 < v:=by omega
      have hml2:=Nat.mod_lt u hv
      try simp (maxSteps:=9^9) only[go_sem]
      refine RemW.pos (by omega) (by omega) ?_
      try simp (maxSteps:=9^9) only[go_sem]
      repeat refine And.intro (by first|omega|(constructor<;>omega)|kernel_rfl) ?_
      refine LoopK.mk (v,u % v) ?_ ⟨gcd_step g1,hv,g4,by simp only; omega⟩ (by simp only; omega)
      refine Wk.mk [] ?_
      try simp (maxSteps:=9^9) only[go_sem]
      try (and_intros<;>first|rfl|omega|exact ⟨_,rfl⟩)
     ·have hv:v=0:=by omega
      subst hv
      rw [Nat.gcd_zero_right] at g1
      try simp (maxSteps:=9^9) only[go_sem]
      rw [<-g1,natL_one g2 g3]
end Go.Proofs.YtaflkgjckmfkoaaGreat.DW

namespace Go.Proofs.YtaflkgjckmfkoaaGreat.DW
open Go.RowKit
abbrev DB:Type:=Bool × List Int
abbrev DR:Type:=DB × List Int
def bigD (z:Int):DB:=(decide (z < 0),natL z.natAbs)
def bZ:DB:=(false,[])
theorem bigD_zero:bigD 0=bZ:=by simp [bigD,bZ,natL_zero]
theorem bigD_inj {x y:Int} (h:bigD x=bigD y):x=y:=by
 simp only [bigD,Prod.mk.injEq,decide_eq_decide] at h
 have:=natL_inj h.2
 omega
theorem bigD_nat (n:Nat):bigD n=(false,natL n):=by
 rw [bigD,Int.natAbs_natCast,decide_eq_false (by omega)]
def sgn (s:Bool) (n:Nat):Int:=if s then -(n:Int) else n
theorem bigD_sgn (s:Bool) (n:Nat):bigD (sgn s n)=(s && decide (0 < n),natL n):=by
 cases s with
 | false=>simp only [sgn,Bool.false_eq_true,if_false,bigD_nat,Bool.false_and]
 | true =>
  simp only [sgn,if_true,bigD,Int.natAbs_neg,Int.natAbs_natCast,Bool.true_and]
  congr 1
  rw [decide_eq_decide]; omega
theorem sgn_bigD (z:Int):sgn (decide (z < 0)) z.natAbs=z:=by
 unfold sgn; split<;>simp_all<;>omega
def okBP (x:DB):Prop:=okNP x.2/\¬ (x.1=true/\x.2.length=0)
noncomputable def okB (x:DB):Bool:=bdec (okBP x)
theorem okBP_bigD {z:Int}:okBP (bigD z) ↔ nl z.natAbs<=60:=by
 unfold okBP bigD
 simp only [okNP_natL,natL_len_nl,nl_eq_zero,decide_eq_true_eq]
 constructor
 ·exact fun h=>h.1
 ·exact fun h=>⟨h,by omega⟩
theorem okBP_iff {x:DB}:okBP x ↔ ∃ z:Int,x=bigD z/\nl z.natAbs<=60:=by
 constructor
 ·intro h
  obtain ⟨n,e,hn⟩:=okNP_iff.1 h.1
  refine ⟨sgn x.1 n,?_,?_⟩
  ·rw [bigD_sgn]
   obtain ⟨s,l⟩:=x
   simp only at e h ⊢
   subst e
   have h2:=h.2
   simp only [natL_len_nl,nl_eq_zero] at h2
   cases s with
   | false=>rfl
   | true =>
    have:0 < n:=by simp at h2; omega
    simp [this]
  ·have:(sgn x.1 n).natAbs=n:=by unfold sgn; split<;>omega
   rw [this]; exact hn
 ·rintro ⟨z,rfl,h⟩; exact okBP_bigD.2 h
theorem okB_bigD {z:Int} (h:nl z.natAbs<=60):okB (bigD z)=true:=bdec_t (okBP_bigD.2 h)
def cmpZ (a b:Int):Int:=if a < b then -1 else if b < a then 1 else 0
def small (q:Rat):Prop:=nl q.num.natAbs<=24/\nl q.den<=24
def ratD (q:Rat):DR:=(bigD q.num,natL q.den)
def rZ:DR:=(bZ,[])
def oD:Option Rat->DR
 | none=>rZ
 | some q=>ratD q
theorem den_pos' (q:Rat):0 < q.den:=Nat.pos_of_ne_zero q.den_nz
theorem ratD_ne (q:Rat):ratD q ≠ rZ:=fun h=>by
 have h2:natL q.den=[]:=congrArg Prod.snd h
 exact q.den_nz (natL_nil.1 h2)
theorem ratD_inj {p q:Rat} (h:ratD p=ratD q):p=q:=by
 simp only [ratD,Prod.mk.injEq] at h
 exact Rat.ext (bigD_inj h.1) (natL_inj h.2)
noncomputable def capR (q:Rat):Option Rat:=@ite _ (small q) (Classical.propDecidable _) (some q) none
theorem capR_s {q:Rat} (h:small q):capR q=some q:=if_pos h
theorem capR_n {q:Rat} (h:¬ small q):capR q=none:=if_neg h
def okO (x:Option Rat):Prop:=∀ q,x=some q->small q
theorem okO_none:okO none:=fun _ h=>by cases h
theorem okO_cap (q:Rat):okO (capR q):=fun p h=>by
 by_cases hs:small q
 ·rw [capR_s hs] at h; injection h with h; exact h ▸ hs
 ·rw [capR_n hs] at h; cases h
noncomputable def rdO (r:DR):Option Rat:=@dite _ (∃ q,small q/\r=ratD q) (Classical.propDecidable _) (fun h=>some (Classical.choose h)) (fun _=>none)
theorem rdO_ratD {q:Rat} (h:small q):rdO (ratD q)=some q:=by
 have he:∃ p,small p/\ratD q=ratD p:=⟨q,h,rfl⟩
 unfold rdO
 rw [dif_pos he]
 exact congrArg some (ratD_inj (Classical.choose_spec he).2.symm)
theorem rdO_oD {x:Option Rat} (h:okO x):rdO (oD x)=x:=by
 cases x with
 | none =>
  unfold rdO
  rw [dif_neg]
  rintro ⟨q,_,hq⟩
  exact ratD_ne q hq.symm
 | some q=>exact rdO_ratD (h q rfl)
theorem rdO_some {r:DR} {q:Rat} (h:rdO r=some q):small q/\r=ratD q:=by
 unfold rdO at h
 split at h
 ·rename_i he
  injection h with h
  rw [<-h]; exact Classical.choose_spec he
 ·cases h
theorem okO_rdO (r:DR):okO (rdO r):=fun q h=>(rdO_some h).1
noncomputable def okR (r:DR):Bool:=(rdO r).isSome
theorem okR_ratD {q:Rat} (h:small q):okR (ratD q)=true:=by rw [okR,rdO_ratD h]; rfl
theorem okR_t {r:DR} (h:okR r=true):∃ q,small q/\r=ratD q/\rdO r=some q:=by
 unfold okR at h
 cases hr:rdO r with
 | none=>rw [hr] at h; cases h
 | some q=>exact ⟨q,(rdO_some hr).1,(rdO_some hr).2,rfl⟩
theorem okR_f {r:DR} (h:okR r=false):rdO r=none:=by
 unfold okR at h
 cases hr:rdO r with
 | none=>rfl
 | some q=>rw [hr] at h; cases h
theorem okR_iff {r:DR}:okR r=true ↔ okBP r.1/\okNP r.2/\r.2 ≠ []/\r.1.2.length<=24/\r.2.length<=24/\Nat.gcd (val r.1.2) (val r.2)=1:=by
 constructor
 ·intro h
  obtain ⟨q,⟨h1,h2⟩,rfl,_⟩:=okR_t h
  simp only [ratD,bigD,natL_len_nl,val_natL]
  refine ⟨okBP_bigD.2 (by omega),okNP_natL.2 (by omega),fun h=>q.den_nz (natL_nil.1 h),h1,h2,q.reduced⟩
 ·rintro ⟨h1,h2,h3,h4,h5,h6⟩
  obtain ⟨z,hz,hzl⟩:=okBP_iff.1 h1
  obtain ⟨n,hn,hnl⟩:=okNP_iff.1 h2
  obtain ⟨x,l⟩:=r
  simp only at hz hn h3 h4 h5 h6
  subst hz hn
  simp only [bigD,natL_len_nl,val_natL] at h4 h5 h6
  have hn0:n ≠ 0:=fun h=>h3 (natL_nil.2 h)
  exact okR_ratD (q:=⟨z,n,hn0,h6⟩) ⟨h4,h5⟩
noncomputable def addO:Option Rat->Option Rat->Option Rat
 | some p,some q=>capR (p+q)
 | _,_=>none
noncomputable def mulO:Option Rat->Option Rat->Option Rat
 | some p,some q=>capR (p * q)
 | _,_=>none
def negO:Option Rat->Option Rat
 | some p=>some (-p)
 | none=>none
noncomputable def subO (x y:Option Rat):Option Rat:=addO x (negO y)
noncomputable def cmpQ (p q:Rat):Int:=if p < q then -1 else if q < p then 1 else 0
noncomputable def cmpO:Option Rat->Option Rat->Int
 | some p,some q=>cmpQ p q
 | _,_=>0
noncomputable def sgnO:Option Rat->Int
 | some p=>cmpQ p 0
 | none=>0
theorem okO_add (x y:Option Rat):okO (addO x y):=by
 unfold addO; split
 ·exact okO_cap _
 ·exact okO_none
theorem okO_mul (x y:Option Rat):okO (mulO x y):=by
 unfold mulO; split
 ·exact okO_cap _
 ·exact okO_none
theorem small_neg {q:Rat} (h:small q):small (-q):=by
 unfold small at *
 rw [Rat.neg_num,Rat.neg_den,Int.natAbs_neg]; exact h
theorem okO_neg {x:Option Rat} (h:okO x):okO (negO x):=by
 cases x with
 | none=>exact okO_none
 | some q=>intro p hp; injection hp with hp; subst hp; exact small_neg (h q rfl)
theorem okO_sub (x y:Option Rat):okO (subO x y):=okO_add _ _
theorem mk_parts {z:Int} {n:Nat} (hn:n ≠ 0):(_root_.mkRat z n).num=z / (Nat.gcd z.natAbs n:Nat)/\(_root_.mkRat z n).den=n / Nat.gcd z.natAbs n:=by
 rw [Rat.num_mkRat,Rat.den_mkRat,if_neg hn,if_neg hn,Nat.gcd_comm]; exact ⟨rfl,rfl⟩
theorem add_mk (p q:Rat):p+q=_root_.mkRat (p.num * q.den+q.num * p.den) (p.den * q.den):=by
 have h:=Rat.mkRat_add_mkRat p.num q.num p.den_nz q.den_nz
 rw [Rat.mkRat_self,Rat.mkRat_self] at h; exact h
theorem mul_mk (p q:Rat):p * q=_root_.mkRat (p.num * q.num) (p.den * q.den):=by
 have h:=Rat.mkRat_mul_mkRat p.num q.num p.den q.den
 rw [Rat.mkRat_self,Rat.mkRat_self] at h; exact h
theorem cmpQ_eq (p q:Rat):cmpQ p q=cmpZ (p.num * q.den) (q.num * p.den):=by
 unfold cmpQ cmpZ
 simp only [Rat.lt_iff]
theorem mk_abs {z:Int} {n:Nat} (hn:n ≠ 0):(_root_.mkRat z n).num.natAbs=z.natAbs / Nat.gcd z.natAbs n/\(_root_.mkRat z n).den=n / Nat.gcd z.natAbs n/\decide ((_root_.mkRat z n).num < 0)=decide (z < 0):=by
 obtain ⟨h1,h2⟩:=mk_parts (z:=z) hn
 have hg:0 < Nat.gcd z.natAbs n:=Nat.gcd_pos_of_pos_right _ (Nat.pos_of_ne_zero hn)
 have hd:Nat.gcd z.natAbs n ∣ z.natAbs:=Nat.gcd_dvd_left ..
 rw [h1,h2]
 generalize Nat.gcd z.natAbs n=g at *
 obtain ⟨k,hk⟩:=hd
 have hk2:z.natAbs / g=k:=by rw [hk,Nat.mul_div_cancel_left _ hg]
 have hz:z=sgn (decide (z < 0)) z.natAbs:=(sgn_bigD z).symm
 have hgz:z / (g:Int)=sgn (decide (z < 0)) k:=by
  have hg':(g:Int) ≠ 0:=by omega
  have e:z=(g:Int) * sgn (decide (z < 0)) k:=by
   rw [hk] at hz
   by_cases h:z < 0
   ·simp only [sgn,h,decide_true,if_true,Int.natCast_mul] at hz ⊢
    rw [Int.mul_neg]; exact hz
   ·simp only [sgn,h,decide_false,Bool.false_eq_true,if_false,Int.natCast_mul] at hz ⊢
    exact hz
  conv=>lhs; rw [e]
  exact Int.mul_ediv_cancel_left _ hg'
 rw [hgz,hk2]
 refine ⟨by unfold sgn; split<;>omega,rfl,?_⟩
 rw [decide_eq_decide]
 unfold sgn
 by_cases h:z < 0
 ·have hkp:0 < k:=by
   rcases Nat.eq_zero_or_pos k with h0|h0
   ·rw [h0,Nat.mul_zero] at hk; omega
   ·exact h0
  simp [h]; omega
 ·simp [h]
end Go.Proofs.YtaflkgjckmfkoaaGreat.DW

namespace Go.Proofs.YtaflkgjckmfkoaaGreat.DW
open Go.RowKit
attribute [go_sem] bigD
theorem nlpos {n:Nat}:(0:Int) < (nl n:Nat) ↔ 0 < n:=by
 by_cases h:n=0
 ·subst h; rw [nl_zero]; simp
 ·have:=(nl_le n h).1; omega
theorem sgn_mul (x y:Int):sgn (!(decide (x < 0) == decide (y < 0))) (x.natAbs * y.natAbs)=x * y:=by
 unfold sgn
 rw [Int.natCast_mul]
 by_cases hx:x < 0<;>by_cases hy:y < 0<;>simp only [hx,hy,decide_true,decide_false,beq_self_eq_true,Bool.not_true,Bool.false_eq_true,if_false,Bool.not_false,if_true,beq_iff_eq,reduceCtorEq]
 ·rw [show (x.natAbs:Int)=-x by omega,show (y.natAbs:Int)=-y by omega,Int.neg_mul_neg]
 ·have e:(!(true == false))=true:=rfl
  rw [e,if_pos rfl,show (x.natAbs:Int)=-x by omega,show (y.natAbs:Int)=y by omega,Int.neg_mul,Int.neg_neg]
 ·have e:(!(false == true))=true:=rfl
  rw [e,if_pos rfl,show (x.natAbs:Int)=x by omega,show (y.natAbs:Int)=-y by omega,Int.mul_neg,Int.neg_neg]
 ·rw [show (x.natAbs:Int)=x by omega,show (y.natAbs:Int)=y by omega]
theorem cmpZ_nn {x y:Int} (hx:x < 0) (hy:y < 0):cmpN y.natAbs x.natAbs=cmpZ x y:=by
 unfold cmpN cmpZ
 by_cases h1:x < y
 ·rw [if_pos (by omega),if_pos h1]
 ·by_cases h2:y < x
  ·rw [if_neg (by omega),if_pos (by omega),if_neg h1,if_pos h2]
  ·rw [if_neg (by omega),if_neg (by omega),if_neg h1,if_neg h2]
theorem cmpZ_pp {x y:Int} (hx:¬ x < 0) (hy:¬ y < 0):cmpN x.natAbs y.natAbs=cmpZ x y:=by
 unfold cmpN cmpZ
 by_cases h1:x < y
 ·rw [if_pos (by omega),if_pos h1]
 ·by_cases h2:y < x
  ·rw [if_neg (by omega),if_pos (by omega),if_neg h1,if_pos h2]
  ·rw [if_neg (by omega),if_neg (by omega),if_neg h1,if_neg h2]
theorem cmpZ_np {x y:Int} (hx:x < 0) (hy:¬ y < 0):cmpZ x y=-1:=by unfold cmpZ; rw [if_pos (by omega)]
theorem cmpZ_pn {x y:Int} (hx:¬ x < 0) (hy:y < 0):cmpZ x y=1:=by unfold cmpZ; rw [if_neg (by omega),if_pos (by omega)]
theorem clone_fn (l:List Int) (hl:l.length<=16777216):Fn Tryz.prog 81 [⟨tInts,l⟩] true [⟨tInts,l⟩]:=by
 refine fn_enter tabOK mixes Tryz.func81 rfl rfl _ Tryz.ntmps81 _ Tryz.results81 (by simp) fun hwf=>?_
 try simp (maxSteps:=9^9) only[go_sem]
 refine NilW.eq ?_
 try simp (maxSteps:=9^9) only[go_sem]
 refine CondW_nb (fun h=>?_) (fun h=>?_)
 ·try simp (maxSteps:=9^9) only[go_sem,h]
 ·try simp (maxSteps:=9^9) only[go_sem]
  repeat refine And.intro (by first|omega|(constructor<;>omega)|kernel_rfl) ?_
  try simp (maxSteps:=9^9) only[go_sem]
  omega
theorem bigMake_fn (s:Bool) (n:Nat):Fn Tryz.prog 69 [⟨.bool,s⟩,⟨tInts,natL n⟩] false [⟨tBig,bigD (sgn s n)⟩]:=by
 rw [bigD_sgn]
 cases s
 ·refine fn_enter tabOK mixes Tryz.func69 rfl rfl _ Tryz.ntmps69 _ Tryz.results69 (by simp) fun hwf=>?_
  try simp (maxSteps:=9^9) only[go_sem]
 ·refine fn_enter tabOK mixes Tryz.func69 rfl rfl _ Tryz.ntmps69 _ Tryz.results69 (by simp) fun hwf=>?_
  try simp (maxSteps:=9^9) only[go_sem]
  simp only [nlpos]
theorem bigMake_to {s:Bool} {n:Nat} {z:Int} (h:sgn s n=z):Fn Tryz.prog 69 [⟨.bool,s⟩,⟨tInts,natL n⟩] false [⟨tBig,bigD z⟩]:=h ▸ bigMake_fn s n
theorem bigNeg_fn (z:Int):Fn Tryz.prog 114 [⟨tBig,bigD z⟩] false [⟨tBig,bigD (-z)⟩]:=by
 refine fn_enter tabOK mixes Tryz.func114 rfl rfl _ Tryz.ntmps114 _ Tryz.results114 (by simp) fun hwf=>?_
 try simp (maxSteps:=9^9) only[go_sem]
 repeat refine And.intro (by first|omega|(constructor<;>omega)|kernel_rfl) ?_
 refine CallW.mk (bigMake_to (s:=!decide (z < 0)) (n:=z.natAbs) (z:=-z) (by unfold sgn; by_cases h:z < 0<;>simp [h]<;>omega)) ?_
 try simp (maxSteps:=9^9) only[go_sem]
theorem bigAdd_fn (x y:Int) (hx:nl x.natAbs<=10000) (hy:nl y.natAbs<=10000):Fn Tryz.prog 76 [⟨tBig,bigD x⟩,⟨tBig,bigD y⟩] false [⟨tBig,bigD (x+y)⟩]:=by
 refine fn_enter tabOK mixes Tryz.func76 rfl rfl _ Tryz.ntmps76 _ Tryz.results76 (by simp) fun hwf=>?_
 try simp (maxSteps:=9^9) only[go_sem]
 refine CondW_b (fun h=>?_) (fun h=>?_)
 ·have hs:decide (x < 0)=decide (y < 0):=by simpa using h
  try simp (maxSteps:=9^9) only[go_sem]
  repeat refine And.intro (by first|omega|(constructor<;>omega)|kernel_rfl) ?_
  refine CallW.mk (natAdd_fn x.natAbs y.natAbs (by omega) (by omega)) ?_
  try simp (maxSteps:=9^9) only[go_sem]
  repeat refine And.intro (by first|omega|(constructor<;>omega)|kernel_rfl) ?_
  refine CallW.mk (bigMake_to (s:=decide (x < 0)) (n:=x.natAbs+y.natAbs) (z:=x+y) (by unfold sgn; by_cases h:x < 0<;>by_cases h2:y < 0<;>simp [h,h2] at hs ⊢<;>omega)) ?_
  try simp (maxSteps:=9^9) only[go_sem]
  kernel_rfl
 ·have hs:decide (x < 0) ≠ decide (y < 0):=by simpa using h
  try simp (maxSteps:=9^9) only[go_sem]
  repeat refine And.intro (by first|omega|(constructor<;>omega)|kernel_rfl) ?_
  refine CallW.mk (natCmp_fn (natL x.natAbs) (natL y.natAbs)) ?_
  try simp (maxSteps:=9^9) only[go_sem]
  refine CondW_dec (fun hc=>?_) (fun hc=>?_)
  ·rw [cmpN_ge] at hc
   try simp (maxSteps:=9^9) only[go_sem]
   repeat refine And.intro (by first|omega|(constructor<;>omega)|kernel_rfl) ?_
   refine CallW.mk (natSub_fn x.natAbs y.natAbs hc (by omega)) ?_
   try simp (maxSteps:=9^9) only[go_sem]
   repeat refine And.intro (by first|omega|(constructor<;>omega)|kernel_rfl) ?_
   refine CallW.mk (bigMake_to (s:=decide (x < 0)) (n:=x.natAbs - y.natAbs) (z:=x+y) (by unfold sgn; by_cases h:x < 0<;>by_cases h2:y < 0<;>simp [h,h2] at hs ⊢<;>omega)) ?_
   try simp (maxSteps:=9^9) only[go_sem]
   kernel_rfl
  ·rw [cmpN_ge] at hc
   try simp (maxSteps:=9^9) only[go_sem]
   repeat refine And.intro (by first|omega|(constructor<;>omega)|kernel_rfl) ?_
   refine CallW.mk (natSub_fn y.natAbs x.natAbs (by omega) (by omega)) ?_
   try simp (maxSteps:=9^9) only[go_sem]
   repeat refine And.intro (by first|omega|(constructor<;>omega)|kernel_rfl) ?_
   refine CallW.mk (bigMake_to (s:=decide (y < 0)) (n:=y.natAbs - x.natAbs) (z:=x+y) (by unfold sgn; by_cases h:x < 0<;>by_cases h2:y < 0<;>simp [h,h2] at hs ⊢<;>omega)) ?_
   try simp (maxSteps:=9^9) only[go_sem]
   kernel_rfl
theorem bigMul_fn (x y:Int) (hx:nl x.natAbs<=10000) (hy:nl y.natAbs<=10000):Fn Tryz.prog 66 [⟨tBig,bigD x⟩,⟨tBig,bigD y⟩] false [⟨tBig,bigD (x * y)⟩]:=by
 refine fn_enter tabOK mixes Tryz.func66 rfl rfl _ Tryz.ntmps66 _ Tryz.results66 (by simp) fun hwf=>?_
 try simp (maxSteps:=9^9) only[go_sem]
 repeat refine And.intro (by first|omega|(constructor<;>omega)|kernel_rfl) ?_
 refine CallW.mk (natMul_fn x.natAbs y.natAbs (by omega) (by omega)) ?_
 try simp (maxSteps:=9^9) only[go_sem]
 repeat refine And.intro (by first|omega|(constructor<;>omega)|kernel_rfl) ?_
 refine CallW.mk (bigMake_to (s:=!(decide (x < 0) == decide (y < 0))) (n:=x.natAbs * y.natAbs) (z:=x * y) (sgn_mul x y)) ?_
 try simp (maxSteps:=9^9) only[go_sem]
 kernel_rfl
theorem bigCmp_fn (x y:Int):Fn Tryz.prog 74 [⟨tBig,bigD x⟩,⟨tBig,bigD y⟩] false [⟨.int,cmpZ x y⟩]:=by
 by_cases hx:x < 0<;>by_cases hy:y < 0
 ·refine fn_enter tabOK mixes Tryz.func74 rfl rfl _ Tryz.ntmps74 _ Tryz.results74 (by simp) fun hwf=>?_
  try simp (maxSteps:=9^9) only[go_sem,hx,hy]
  repeat refine And.intro (by first|omega|(constructor<;>omega)|kernel_rfl) ?_
  refine CallW.mk (natCmp_fn (natL y.natAbs) (natL x.natAbs)) ?_
  try simp (maxSteps:=9^9) only[go_sem]
  exact cmpZ_nn hx hy
 ·refine fn_enter tabOK mixes Tryz.func74 rfl rfl _ Tryz.ntmps74 _ Tryz.results74 (by simp) fun hwf=>?_
  try simp (maxSteps:=9^9) only[go_sem,hx,hy]
  exact (cmpZ_np hx hy).symm
 ·refine fn_enter tabOK mixes Tryz.func74 rfl rfl _ Tryz.ntmps74 _ Tryz.results74 (by simp) fun hwf=>?_
  try simp (maxSteps:=9^9) only[go_sem,hx,hy]
  exact (cmpZ_pn hx hy).symm
 ·refine fn_enter tabOK mixes Tryz.func74 rfl rfl _ Tryz.ntmps74 _ Tryz.results74 (by simp) fun hwf=>?_
  try simp (maxSteps:=9^9) only[go_sem,hx,hy]
  repeat refine And.intro (by first|omega|(constructor<;>omega)|kernel_rfl) ?_
  refine CallW.mk (natCmp_fn (natL x.natAbs) (natL y.natAbs)) ?_
  try simp (maxSteps:=9^9) only[go_sem]
  exact cmpZ_pp hx hy
theorem ownBig_fn (z:Int) (hz:nl z.natAbs<=60):Fn Tryz.prog 109 [⟨tBig,bigD z⟩] true [⟨tBig,bigD z⟩]:=by
 have hA:¬ (60:Int) < nl z.natAbs:=by omega
 refine fn_enter tabOK mixes Tryz.func109 rfl rfl _ Tryz.ntmps109 _ Tryz.results109 (by simp) fun hwf=>?_
 try simp (maxSteps:=9^9) only[go_sem,hA]
 repeat refine And.intro (by first|omega|(constructor<;>omega)|kernel_rfl) ?_
 refine CallW.mk (clone_fn (natL z.natAbs) (by show nl z.natAbs<=16777216; omega)) ?_
 try simp (maxSteps:=9^9) only[go_sem]
 kernel_rfl
theorem okB_eq (s:Bool) (l:List Int):okB (s,l)=(okN l && !(s && decide ((l.length:Int)=0))):=by
 by_cases h1:okNP l
 ·by_cases h2:l.length=0
  ·cases s
   ·rw [okB,bdec_t ⟨h1,fun h=>by cases h.1⟩,okN,bdec_t h1]; rfl
   ·rw [okB,bdec_f fun h=>h.2 ⟨rfl,h2⟩,h2]; simp
  ·rw [okB,bdec_t ⟨h1,fun h=>h2 h.2⟩,okN,bdec_t h1,decide_eq_false (by omega)]; simp
 ·rw [okB,bdec_f fun h=>h1 h.1,okN,bdec_f h1]; rfl
theorem implBigIntOk_fn (x:DB):Fn Tryz.prog 77 [⟨tBig,x⟩] false [⟨.bool,okB x⟩]:=by
 obtain ⟨s,l⟩:=x
 rw [okB_eq]
 cases hN:okN l<;>cases s
 all_goals
  refine fn_enter tabOK mixes Tryz.func77 rfl rfl _ Tryz.ntmps77 _ Tryz.results77 (by simp) fun hwf=>?_
  try simp (maxSteps:=9^9) only[go_sem]
  repeat refine And.intro (by first|omega|(constructor<;>omega)|kernel_rfl) ?_
  refine CallW.mk (implNatOk_fn l) ?_
  try simp (maxSteps:=9^9) only[go_sem]
  try simp (maxSteps:=9^9) only[go_sem,hN]
theorem specBigIntOk_fn (x:DB):Fn Tryz.prog 136 [⟨tBig,x⟩] false [⟨.bool,okB x⟩]:=by
 obtain ⟨s,l⟩:=x
 rw [okB_eq]
 by_cases hl:(l.length:Int)=0
 ·have hl2:¬ 0 < (l.length:Int):=by omega
  cases hN:okN l<;>cases s
  all_goals
   refine fn_enter tabOK mixes Tryz.func136 rfl rfl _ Tryz.ntmps136 _ Tryz.results136 (by simp) fun hwf=>?_
   try simp (maxSteps:=9^9) only[go_sem]
   repeat refine And.intro (by first|omega|(constructor<;>omega)|kernel_rfl) ?_
   refine CallW.mk (specNatOk_fn l) ?_
   try simp (maxSteps:=9^9) only[go_sem]
   try simp (maxSteps:=9^9) only[go_sem,hN,hl,hl2]
 ·have hl2:0 < (l.length:Int):=by omega
  cases hN:okN l<;>cases s
  all_goals
   refine fn_enter tabOK mixes Tryz.func136 rfl rfl _ Tryz.ntmps136 _ Tryz.results136 (by simp) fun hwf=>?_
   try simp (maxSteps:=9^9) only[go_sem]
   repeat refine And.intro (by first|omega|(constructor<;>omega)|kernel_rfl) ?_
   refine CallW.mk (specNatOk_fn l) ?_
   try simp (maxSteps:=9^9) only[go_sem]
   try simp (maxSteps:=9^9) only[go_sem,hN,hl,hl2]
theorem l02Cap_fn (n:Nat) (hn:nl n<=60):Fn Tryz.prog 169 [⟨tInts,natL n⟩] false [⟨tInts,natL n⟩]:=by
 have hA:¬ (60:Int) < nl n:=by omega
 have ht:=l02Trim_fn (natL n)
 rw [trimL_natL] at ht
 refine fn_enter tabOK mixes Tryz.func169 rfl rfl _ Tryz.ntmps169 _ Tryz.results169 (by simp) fun hwf=>?_
 try simp (maxSteps:=9^9) only[go_sem]
 repeat refine And.intro (by first|omega|(constructor<;>omega)|kernel_rfl) ?_
 refine CallW.mk (ht) ?_
 try simp (maxSteps:=9^9) only[go_sem]
 try simp (maxSteps:=9^9) only[go_sem,hA]
theorem l03Make_fn (s:Bool) (n:Nat) (hn:nl n<=60):Fn Tryz.prog 142 [⟨.bool,s⟩,⟨tInts,natL n⟩] true [⟨tBig,bigD (sgn s n)⟩]:=by
 rw [bigD_sgn]
 cases s
 ·refine fn_enter tabOK mixes Tryz.func142 rfl rfl _ Tryz.ntmps142 _ Tryz.results142 (by simp) fun hwf=>?_
  try simp (maxSteps:=9^9) only[go_sem]
  repeat refine And.intro (by first|omega|(constructor<;>omega)|kernel_rfl) ?_
  refine CallW.mk (l02Cap_fn n hn) ?_
  try simp (maxSteps:=9^9) only[go_sem]
  repeat refine And.intro (by first|omega|(constructor<;>omega)|kernel_rfl) ?_
  omega
 ·refine fn_enter tabOK mixes Tryz.func142 rfl rfl _ Tryz.ntmps142 _ Tryz.results142 (by simp) fun hwf=>?_
  try simp (maxSteps:=9^9) only[go_sem]
  repeat refine And.intro (by first|omega|(constructor<;>omega)|kernel_rfl) ?_
  refine CallW.mk (l02Cap_fn n hn) ?_
  try simp (maxSteps:=9^9) only[go_sem]
  repeat refine And.intro (by first|omega|(constructor<;>omega)|kernel_rfl) ?_
  simp only [nlpos]
theorem l03Make_to {s:Bool} {n:Nat} {z:Int} (h:sgn s n=z) (hn:nl n<=60):Fn Tryz.prog 142 [⟨.bool,s⟩,⟨tInts,natL n⟩] true [⟨tBig,bigD z⟩]:=h ▸ l03Make_fn s n hn
theorem l03Add_fn (x y:Int) (hx:nl x.natAbs<=59) (hy:nl y.natAbs<=59):Fn Tryz.prog 140 [⟨tBig,bigD x⟩,⟨tBig,bigD y⟩] true [⟨tBig,bigD (x+y)⟩]:=by
 have hl:=nl_add x.natAbs y.natAbs
 have hl1:=nl_mono (Nat.sub_le x.natAbs y.natAbs)
 have hl2:=nl_mono (Nat.sub_le y.natAbs x.natAbs)
 refine fn_enter tabOK mixes Tryz.func140 rfl rfl _ Tryz.ntmps140 _ Tryz.results140 (by simp) fun hwf=>?_
 try simp (maxSteps:=9^9) only[go_sem]
 refine CondW_b (fun h=>?_) (fun h=>?_)
 ·have hs:decide (x < 0)=decide (y < 0):=by simpa using h
  try simp (maxSteps:=9^9) only[go_sem]
  repeat refine And.intro (by first|omega|(constructor<;>omega)|kernel_rfl) ?_
  refine CallW.mk (l02Add_fn x.natAbs y.natAbs (by omega) (by omega)) ?_
  try simp (maxSteps:=9^9) only[go_sem]
  repeat refine And.intro (by first|omega|(constructor<;>omega)|kernel_rfl) ?_
  refine CallW.mk (l03Make_to (s:=decide (x < 0)) (n:=x.natAbs+y.natAbs) (z:=x+y) (by unfold sgn; by_cases h:x < 0<;>by_cases h2:y < 0<;>simp [h,h2] at hs ⊢<;>omega) (by omega)) ?_
  try simp (maxSteps:=9^9) only[go_sem]
  kernel_rfl
 ·have hs:decide (x < 0) ≠ decide (y < 0):=by simpa using h
  try simp (maxSteps:=9^9) only[go_sem]
  repeat refine And.intro (by first|omega|(constructor<;>omega)|kernel_rfl) ?_
  refine CallW.mk (l02Cmp_fn (natL x.natAbs) (natL y.natAbs)) ?_
  try simp (maxSteps:=9^9) only[go_sem]
  refine CondW_dec (fun hc=>?_) (fun hc=>?_)
  ·rw [cmpN_ge] at hc
   try simp (maxSteps:=9^9) only[go_sem]
   repeat refine And.intro (by first|omega|(constructor<;>omega)|kernel_rfl) ?_
   refine CallW.mk (l02Sub_fn x.natAbs y.natAbs hc (by omega)) ?_
   try simp (maxSteps:=9^9) only[go_sem]
   repeat refine And.intro (by first|omega|(constructor<;>omega)|kernel_rfl) ?_
   refine CallW.mk (l03Make_to (s:=decide (x < 0)) (n:=x.natAbs - y.natAbs) (z:=x+y) (by unfold sgn; by_cases h:x < 0<;>by_cases h2:y < 0<;>simp [h,h2] at hs ⊢<;>omega) (by omega)) ?_
   try simp (maxSteps:=9^9) only[go_sem]
   kernel_rfl
  ·rw [cmpN_ge] at hc
   try simp (maxSteps:=9^9) only[go_sem]
   repeat refine And.intro (by first|omega|(constructor<;>omega)|kernel_rfl) ?_
   refine CallW.mk (l02Sub_fn y.natAbs x.natAbs (by omega) (by omega)) ?_
   try simp (maxSteps:=9^9) only[go_sem]
   repeat refine And.intro (by first|omega|(constructor<;>omega)|kernel_rfl) ?_
   refine CallW.mk (l03Make_to (s:=decide (y < 0)) (n:=y.natAbs - x.natAbs) (z:=x+y) (by unfold sgn; by_cases h:x < 0<;>by_cases h2:y < 0<;>simp [h,h2] at hs ⊢<;>omega) (by omega)) ?_
   try simp (maxSteps:=9^9) only[go_sem]
   kernel_rfl
end Go.Proofs.YtaflkgjckmfkoaaGreat.DW

namespace Go.Proofs.YtaflkgjckmfkoaaGreat.DW
open Go.RowKit
@[go_sem] theorem oD_s (q:Rat):oD (some q)=ratD q:=(rfl)
@[go_sem] theorem oD_n:oD none=rZ:=(rfl)
attribute [go_sem] ratD rZ bZ
theorem one_iff {n:Nat}:((nl n:Int)=1/\(dg n 0:Int)=1) ↔ n=1:=by
 constructor
 ·rintro ⟨h1,h2⟩
  have:=dg_one (b:=n) (by omega)
  omega
 ·rintro rfl
  have h:nl 1=1:=by rw [nl_pos (by decide),show 1 / 1000000000=0 from rfl,nl_zero]
  exact ⟨by omega,by have:=dg_one h; omega⟩
theorem isOne_fn (n:Nat):Fn Tryz.prog 79 [⟨tInts,natL n⟩] false [⟨.bool,decide (n=1)⟩]:=by
 by_cases h1:(nl n:Int)=1
 ·have hiff:=@one_iff n
  refine fn_enter tabOK mixes Tryz.func79 rfl rfl _ Tryz.ntmps79 _ Tryz.results79 (by simp) fun hwf=>?_
  try simp (maxSteps:=9^9) only[go_sem,h1]
  repeat refine And.intro (by first|omega|(constructor<;>omega)|kernel_rfl) ?_
  rw [decide_eq_decide]; omega
 ·have hn:n ≠ 1:=fun h=>h1 (one_iff.2 h).1
  refine fn_enter tabOK mixes Tryz.func79 rfl rfl _ Tryz.ntmps79 _ Tryz.results79 (by simp) fun hwf=>?_
  try simp (maxSteps:=9^9) only[go_sem,h1]
  simp [hn]
theorem l04One_fn (n:Nat):Fn Tryz.prog 138 [⟨tInts,natL n⟩] false [⟨.bool,decide (n=1)⟩]:=by
 by_cases h1:(nl n:Int)=1
 ·have hiff:=@one_iff n
  refine fn_enter tabOK mixes Tryz.func138 rfl rfl _ Tryz.ntmps138 _ Tryz.results138 (by simp) fun hwf=>?_
  try simp (maxSteps:=9^9) only[go_sem,h1]
  repeat refine And.intro (by first|omega|(constructor<;>omega)|kernel_rfl) ?_
  rw [decide_eq_decide]; omega
 ·have hn:n ≠ 1:=fun h=>h1 (one_iff.2 h).1
  refine fn_enter tabOK mixes Tryz.func138 rfl rfl _ Tryz.ntmps138 _ Tryz.results138 (by simp) fun hwf=>?_
  try simp (maxSteps:=9^9) only[go_sem,h1]
  simp [hn]
theorem bool_ext' {a b:Bool} (h:a=true ↔ b=true):a=b:=by cases a<;>cases b<;>simp_all
theorem okB_iff {x:DB}:okB x=true ↔ okBP x:=by
 constructor
 ·intro h; exact Classical.byContradiction fun hn=>by rw [okB,bdec_f hn] at h; cases h
 ·exact fun h=>bdec_t h
theorem okN_iff {l:List Int}:okN l=true ↔ okNP l:=by
 constructor
 ·intro h; exact Classical.byContradiction fun hn=>by rw [okN,bdec_f hn] at h; cases h
 ·exact fun h=>bdec_t h
theorem okR_eq (x:DB) (d:List Int):okR (x,d)=(okB x && okN d && !decide ((d.length:Int)=0) && !decide (24 < (x.2.length:Int)) && !decide (24 < (d.length:Int)) && decide (Nat.gcd (val x.2) (val d)=1)):=by
 apply bool_ext'
 rw [okR_iff]
 simp only [Bool.and_eq_true,okB_iff,okN_iff,Bool.not_eq_true',decide_eq_false_iff_not,decide_eq_true_eq,and_assoc]
 constructor
 ·rintro ⟨h1,h2,h3,h4,h5,h6⟩
  refine ⟨h1,h2,fun h=>h3 (List.eq_nil_of_length_eq_zero (by omega)),by omega,by omega,h6⟩
 ·rintro ⟨h1,h2,h3,h4,h5,h6⟩
  refine ⟨h1,h2,fun h=>h3 (by rw [h]; rfl),by omega,by omega,h6⟩
theorem implRatOk_fn (r:DR):Fn Tryz.prog 41 [⟨tRat,r⟩] false [⟨.bool,okR r⟩]:=by
 obtain ⟨x,d⟩:=r
 rw [okR_eq]
 cases h1:okB x
 ·refine fn_enter tabOK mixes Tryz.func41 rfl rfl _ Tryz.ntmps41 _ Tryz.results41 (by simp) fun hwf=>?_
  try simp (maxSteps:=9^9) only[go_sem]
  repeat refine And.intro (by first|omega|(constructor<;>omega)|kernel_rfl) ?_
  refine CallW.mk (implBigIntOk_fn x) ?_
  try simp (maxSteps:=9^9) only[go_sem]
  try simp (maxSteps:=9^9) only[go_sem,h1]
 cases h2:okN d
 ·refine fn_enter tabOK mixes Tryz.func41 rfl rfl _ Tryz.ntmps41 _ Tryz.results41 (by simp) fun hwf=>?_
  try simp (maxSteps:=9^9) only[go_sem]
  repeat refine And.intro (by first|omega|(constructor<;>omega)|kernel_rfl) ?_
  refine CallW.mk (implBigIntOk_fn x) ?_
  try simp (maxSteps:=9^9) only[go_sem]
  try simp (maxSteps:=9^9) only[go_sem,h1]
  repeat refine And.intro (by first|omega|(constructor<;>omega)|kernel_rfl) ?_
  refine CallW.mk (implNatOk_fn d) ?_
  try simp (maxSteps:=9^9) only[go_sem]
  try simp (maxSteps:=9^9) only[go_sem,h2]
 by_cases h3:(d.length:Int)=0
 ·refine fn_enter tabOK mixes Tryz.func41 rfl rfl _ Tryz.ntmps41 _ Tryz.results41 (by simp) fun hwf=>?_
  try simp (maxSteps:=9^9) only[go_sem]
  repeat refine And.intro (by first|omega|(constructor<;>omega)|kernel_rfl) ?_
  refine CallW.mk (implBigIntOk_fn x) ?_
  try simp (maxSteps:=9^9) only[go_sem]
  try simp (maxSteps:=9^9) only[go_sem,h1]
  repeat refine And.intro (by first|omega|(constructor<;>omega)|kernel_rfl) ?_
  refine CallW.mk (implNatOk_fn d) ?_
  try simp (maxSteps:=9^9) only[go_sem]
  try simp (maxSteps:=9^9) only[go_sem,h2,h3]
 by_cases h4:24 < (x.2.length:Int)
 ·refine fn_enter tabOK mixes Tryz.func41 rfl rfl _ Tryz.ntmps41 _ Tryz.results41 (by simp) fun hwf=>?_
  try simp (maxSteps:=9^9) only[go_sem]
  repeat refine And.intro (by first|omega|(constructor<;>omega)|kernel_rfl) ?_
  refine CallW.mk (implBigIntOk_fn x) ?_
  try simp (maxSteps:=9^9) only[go_sem]
  try simp (maxSteps:=9^9) only[go_sem,h1]
  repeat refine And.intro (by first|omega|(constructor<;>omega)|kernel_rfl) ?_
  refine CallW.mk (implNatOk_fn d) ?_
  try simp (maxSteps:=9^9) only[go_sem]
  try simp (maxSteps:=9^9) only[go_sem,h2,h3,h4]
 by_cases h5:24 < (d.length:Int)
 ·refine fn_enter tabOK mixes Tryz.func41 rfl rfl _ Tryz.ntmps41 _ Tryz.results41 (by simp) fun hwf=>?_
  try simp (maxSteps:=9^9) only[go_sem]
  repeat refine And.intro (by first|omega|(constructor<;>omega)|kernel_rfl) ?_
  refine CallW.mk (implBigIntOk_fn x) ?_
  try simp (maxSteps:=9^9) only[go_sem]
  try simp (maxSteps:=9^9) only[go_sem,h1]
  repeat refine And.intro (by first|omega|(constructor<;>omega)|kernel_rfl) ?_
  refine CallW.mk (implNatOk_fn d) ?_
  try simp (maxSteps:=9^9) only[go_sem]
  try simp (maxSteps:=9^9) only[go_sem,h2,h3,h4,h5]
 obtain ⟨z,rfl,_⟩:=okBP_iff.1 (okB_iff.1 h1)
 obtain ⟨n,rfl,_⟩:=okNP_iff.1 (okN_iff.1 h2)
 have h1':okB (decide (z < 0),natL z.natAbs)=true:=h1
 have h3':¬ (nl n:Int)=0:=h3
 have h4':¬ 24 < (nl z.natAbs:Int):=h4
 have h5':¬ 24 < (nl n:Int):=h5
 have hv:val (bigD z).2=z.natAbs:=val_natL _
 rw [hv,val_natL]
 by_cases hn:n=1
 ·refine fn_enter tabOK mixes Tryz.func41 rfl rfl _ Tryz.ntmps41 _ Tryz.results41 (by simp) fun hwf=>?_
  try simp (maxSteps:=9^9) only[go_sem]
  repeat refine And.intro (by first|omega|(constructor<;>omega)|kernel_rfl) ?_
  refine CallW.mk (implBigIntOk_fn (bigD z)) ?_
  try simp (maxSteps:=9^9) only[go_sem]
  try simp (maxSteps:=9^9) only[go_sem,h1']
  repeat refine And.intro (by first|omega|(constructor<;>omega)|kernel_rfl) ?_
  refine CallW.mk (implNatOk_fn (natL n)) ?_
  try simp (maxSteps:=9^9) only[go_sem]
  try simp (maxSteps:=9^9) only[go_sem,h2,h3',h4',h5']
  repeat refine And.intro (by first|omega|(constructor<;>omega)|kernel_rfl) ?_
  refine CallW.mk (isOne_fn n) ?_
  try simp (maxSteps:=9^9) only[go_sem]
  try simp (maxSteps:=9^9) only[go_sem,hn]
  simp
 ·refine fn_enter tabOK mixes Tryz.func41 rfl rfl _ Tryz.ntmps41 _ Tryz.results41 (by simp) fun hwf=>?_
  try simp (maxSteps:=9^9) only[go_sem]
  repeat refine And.intro (by first|omega|(constructor<;>omega)|kernel_rfl) ?_
  refine CallW.mk (implBigIntOk_fn (bigD z)) ?_
  try simp (maxSteps:=9^9) only[go_sem]
  try simp (maxSteps:=9^9) only[go_sem,h1']
  repeat refine And.intro (by first|omega|(constructor<;>omega)|kernel_rfl) ?_
  refine CallW.mk (implNatOk_fn (natL n)) ?_
  try simp (maxSteps:=9^9) only[go_sem]
  try simp (maxSteps:=9^9) only[go_sem,h2,h3',h4',h5']
  repeat refine And.intro (by first|omega|(constructor<;>omega)|kernel_rfl) ?_
  refine CallW.mk (isOne_fn n) ?_
  try simp (maxSteps:=9^9) only[go_sem]
  try simp (maxSteps:=9^9) only[go_sem,hn]
  repeat refine And.intro (by first|omega|(constructor<;>omega)|kernel_rfl) ?_
  refine CallW.mk (natGcd_fn z.natAbs n (by omega) (by omega)) ?_
  try simp (maxSteps:=9^9) only[go_sem]
  repeat refine And.intro (by first|omega|(constructor<;>omega)|kernel_rfl) ?_
  refine CallW.mk (isOne_fn (Nat.gcd z.natAbs n)) ?_
  try simp (maxSteps:=9^9) only[go_sem]
theorem specRatOk_fn (r:DR):Fn Tryz.prog 102 [⟨tRat,r⟩] false [⟨.bool,okR r⟩]:=by
 obtain ⟨x,d⟩:=r
 rw [okR_eq]
 cases h1:okB x
 ·refine fn_enter tabOK mixes Tryz.func102 rfl rfl _ Tryz.ntmps102 _ Tryz.results102 (by simp) fun hwf=>?_
  try simp (maxSteps:=9^9) only[go_sem]
  repeat refine And.intro (by first|omega|(constructor<;>omega)|kernel_rfl) ?_
  refine CallW.mk (specBigIntOk_fn x) ?_
  try simp (maxSteps:=9^9) only[go_sem]
  try simp (maxSteps:=9^9) only[go_sem,h1]
 cases h2:okN d
 ·refine fn_enter tabOK mixes Tryz.func102 rfl rfl _ Tryz.ntmps102 _ Tryz.results102 (by simp) fun hwf=>?_
  try simp (maxSteps:=9^9) only[go_sem]
  repeat refine And.intro (by first|omega|(constructor<;>omega)|kernel_rfl) ?_
  refine CallW.mk (specBigIntOk_fn x) ?_
  try simp (maxSteps:=9^9) only[go_sem]
  try simp (maxSteps:=9^9) only[go_sem,h1]
  repeat refine And.intro (by first|omega|(constructor<;>omega)|kernel_rfl) ?_
  refine CallW.mk (specNatOk_fn d) ?_
  try simp (maxSteps:=9^9) only[go_sem]
  try simp (maxSteps:=9^9) only[go_sem,h2]
 by_cases h3:(d.length:Int)=0
 ·refine fn_enter tabOK mixes Tryz.func102 rfl rfl _ Tryz.ntmps102 _ Tryz.results102 (by simp) fun hwf=>?_
  try simp (maxSteps:=9^9) only[go_sem]
  repeat refine And.intro (by first|omega|(constructor<;>omega)|kernel_rfl) ?_
  refine CallW.mk (specBigIntOk_fn x) ?_
  try simp (maxSteps:=9^9) only[go_sem]
  try simp (maxSteps:=9^9) only[go_sem,h1]
  repeat refine And.intro (by first|omega|(constructor<;>omega)|kernel_rfl) ?_
  refine CallW.mk (specNatOk_fn d) ?_
  try simp (maxSteps:=9^9) only[go_sem]
  try simp (maxSteps:=9^9) only[go_sem,h2,h3]
 by_cases h5:24 < (d.length:Int)
 ·refine fn_enter tabOK mixes Tryz.func102 rfl rfl _ Tryz.ntmps102 _ Tryz.results102 (by simp) fun hwf=>?_
  try simp (maxSteps:=9^9) only[go_sem]
  repeat refine And.intro (by first|omega|(constructor<;>omega)|kernel_rfl) ?_
  refine CallW.mk (specBigIntOk_fn x) ?_
  try simp (maxSteps:=9^9) only[go_sem]
  try simp (maxSteps:=9^9) only[go_sem,h1]
  repeat refine And.intro (by first|omega|(constructor<;>omega)|kernel_rfl) ?_
  refine CallW.mk (specNatOk_fn d) ?_
  try simp (maxSteps:=9^9) only[go_sem]
  try simp (maxSteps:=9^9) only[go_sem,h2,h3,h5]
 by_cases h4:24 < (x.2.length:Int)
 ·refine fn_enter tabOK mixes Tryz.func102 rfl rfl _ Tryz.ntmps102 _ Tryz.results102 (by simp) fun hwf=>?_
  try simp (maxSteps:=9^9) only[go_sem]
  repeat refine And.intro (by first|omega|(constructor<;>omega)|kernel_rfl) ?_
  refine CallW.mk (specBigIntOk_fn x) ?_
  try simp (maxSteps:=9^9) only[go_sem]
  try simp (maxSteps:=9^9) only[go_sem,h1]
  repeat refine And.intro (by first|omega|(constructor<;>omega)|kernel_rfl) ?_
  refine CallW.mk (specNatOk_fn d) ?_
  try simp (maxSteps:=9^9) only[go_sem]
  try simp (maxSteps:=9^9) only[go_sem,h2,h3,h5,h4]
 obtain ⟨z,rfl,_⟩:=okBP_iff.1 (okB_iff.1 h1)
 obtain ⟨n,rfl,_⟩:=okNP_iff.1 (okN_iff.1 h2)
 have h1':okB (decide (z < 0),natL z.natAbs)=true:=h1
 have h3':¬ (nl n:Int)=0:=h3
 have h4':¬ 24 < (nl z.natAbs:Int):=h4
 have h5':¬ 24 < (nl n:Int):=h5
 have hv:val (bigD z).2=z.natAbs:=val_natL _
 rw [hv,val_natL]
 refine fn_enter tabOK mixes Tryz.func102 rfl rfl _ Tryz.ntmps102 _ Tryz.results102 (by simp) fun hwf=>?_
 try simp (maxSteps:=9^9) only[go_sem]
 repeat refine And.intro (by first|omega|(constructor<;>omega)|kernel_rfl) ?_
 refine CallW.mk (specBigIntOk_fn (bigD z)) ?_
 try simp (maxSteps:=9^9) only[go_sem]
 try simp (maxSteps:=9^9) only[go_sem,h1']
 repeat refine And.intro (by first|omega|(constructor<;>omega)|kernel_rfl) ?_
 refine CallW.mk (specNatOk_fn (natL n)) ?_
 try simp (maxSteps:=9^9) only[go_sem]
 try simp (maxSteps:=9^9) only[go_sem,h2,h3',h4',h5']
 repeat refine And.intro (by first|omega|(constructor<;>omega)|kernel_rfl) ?_
 refine CallW.mk (l02Gcd_fn z.natAbs n (by omega) (by omega)) ?_
 try simp (maxSteps:=9^9) only[go_sem]
 repeat refine And.intro (by first|omega|(constructor<;>omega)|kernel_rfl) ?_
 refine CallW.mk (l04One_fn (Nat.gcd z.natAbs n)) ?_
 try simp (maxSteps:=9^9) only[go_sem]
theorem isGood_fn (x:Option Rat):Fn Tryz.prog 39 [⟨tRat,oD x⟩] false [⟨.bool,x.isSome⟩]:=by
 cases x with
 | none =>
  refine fn_enter tabOK mixes Tryz.func39 rfl rfl _ Tryz.ntmps39 _ Tryz.results39 (by simp) fun hwf=>?_
  try simp (maxSteps:=9^9) only[go_sem]
  rfl
 | some q =>
  have h:(0:Int) < nl q.den:=nlpos.2 (den_pos' q)
  refine fn_enter tabOK mixes Tryz.func39 rfl rfl _ Tryz.ntmps39 _ Tryz.results39 (by simp) fun hwf=>?_
  try simp (maxSteps:=9^9) only[go_sem,h]
end Go.Proofs.YtaflkgjckmfkoaaGreat.DW

namespace Go.Proofs.YtaflkgjckmfkoaaGreat.DW
open Go.RowKit
theorem capR_data {q:Rat} (h:small q):oD (capR q)=((decide (q.num < 0),natL q.num.natAbs),natL q.den):=by rw [capR_s h]; rfl
theorem capR_none {q:Rat} (h:¬ small q):oD (capR q)=((false,[]),[]):=by rw [capR_n h]; rfl
theorem bigMulN_fn (x:Int) (n:Nat) (hx:nl x.natAbs<=10000) (hy:nl n<=10000):Fn Tryz.prog 66 [⟨tBig,bigD x⟩,⟨tBig,(false,natL n)⟩] false [⟨tBig,bigD (x * n)⟩]:=by
 have:=bigMul_fn x n hx (by simpa using hy)
 rw [bigD_nat] at this
 exact this
theorem ratMake_end (z:Int) (n:Nat) (hn:n ≠ 0) (hz:nl z.natAbs<=10000) (hnl:nl n<=10000):Fn Tryz.prog 65 [⟨tBig,bigD z⟩,⟨tInts,natL n⟩] true [⟨tRat,oD (capR (_root_.mkRat z n))⟩]:=by
 obtain ⟨m1,m2,m3⟩:=mk_abs (z:=z) hn
 generalize hq:_root_.mkRat z n=q at *
 have hg0:0 < Nat.gcd z.natAbs n:=Nat.gcd_pos_of_pos_right _ (Nat.pos_of_ne_zero hn)
 have hl1:=nl_mono (Nat.div_le_self z.natAbs (Nat.gcd z.natAbs n))
 have hl2:=nl_mono (Nat.div_le_self n (Nat.gcd z.natAbs n))
 have hl3:=nl_mono (Nat.gcd_le_right z.natAbs (Nat.pos_of_ne_zero hn))
 rw [<-m1] at hl1
 rw [<-m2] at hl2
 have hpath:(decide (n=1)=true/\z.natAbs=q.num.natAbs/\n=q.den)\/(decide (n=1)=false/\decide (Nat.gcd z.natAbs n=1)=true/\z.natAbs=q.num.natAbs/\n=q.den)\/(decide (n=1)=false/\decide (Nat.gcd z.natAbs n=1)=false):=by
  by_cases h1:n=1
  ·refine .inl ⟨decide_eq_true h1,?_,?_⟩
   ·rw [m1,h1,Nat.gcd_one_right,Nat.div_one]
   ·rw [m2,h1,Nat.gcd_one_right,Nat.div_one]
  ·by_cases h2:Nat.gcd z.natAbs n=1
   ·exact .inr (.inl ⟨decide_eq_false h1,decide_eq_true h2,by rw [m1,h2,Nat.div_one],by rw [m2,h2,Nat.div_one]⟩)
   ·exact .inr (.inr ⟨decide_eq_false h1,decide_eq_false h2⟩)
 have hcn:=clone_fn (natL q.den) (by show nl q.den<=16777216; omega)
 have hob:small q->Fn Tryz.prog 109 [⟨tBig,(decide (z < 0),natL q.num.natAbs)⟩] true [⟨tBig,(decide (z < 0),natL q.num.natAbs)⟩]:=fun hs=>by
  have:=ownBig_fn q.num (by have:=hs.1; omega)
  unfold bigD at this
  rw [m3] at this
  exact this
 have hend:small q\/(24:Int) < nl q.num.natAbs\/(¬ (24:Int) < nl q.num.natAbs/\(24:Int) < nl q.den):=by unfold small; omega
 rcases hpath with ⟨hd,e1,e2⟩|⟨hd,hd2,e1,e2⟩|⟨hd,hd2⟩
 ·rcases hend with hs|hA|⟨hA,hB⟩
  ·rw [capR_data hs,m3]
   have hA:¬ (24:Int) < nl q.num.natAbs:=by have:=hs.1; omega
   have hB:¬ (24:Int) < nl q.den:=by have:=hs.2; omega
   have hob:=hob hs
   rw [<-e1] at hA hob; rw [<-e2] at hB hcn; rw [<-e1,<-e2]
   refine fn_enter tabOK mixes Tryz.func65 rfl rfl _ Tryz.ntmps65 _ Tryz.results65 (by simp) fun hwf=>?_
   try simp (maxSteps:=9^9) only[go_sem]
   repeat refine And.intro (by first|omega|(constructor<;>omega)|kernel_rfl) ?_
   refine CallW.mk (isOne_fn n) ?_
   try simp (maxSteps:=9^9) only[go_sem]
   try simp (maxSteps:=9^9) only[go_sem,hd,hA,hB]
   repeat refine And.intro (by first|omega|(constructor<;>omega)|kernel_rfl) ?_
   refine CallW.mk (hob) ?_
   try simp (maxSteps:=9^9) only[go_sem]
   repeat refine And.intro (by first|omega|(constructor<;>omega)|kernel_rfl) ?_
   refine CallW.mk (hcn) ?_
   try simp (maxSteps:=9^9) only[go_sem]
  ·rw [capR_none (by unfold small; omega)]
   rw [<-e1] at hA
   refine fn_enter tabOK mixes Tryz.func65 rfl rfl _ Tryz.ntmps65 _ Tryz.results65 (by simp) fun hwf=>?_
   try simp (maxSteps:=9^9) only[go_sem]
   repeat refine And.intro (by first|omega|(constructor<;>omega)|kernel_rfl) ?_
   refine CallW.mk (isOne_fn n) ?_
   try simp (maxSteps:=9^9) only[go_sem]
   try simp (maxSteps:=9^9) only[go_sem,hd,hA]
  ·rw [capR_none (by unfold small; omega)]
   rw [<-e1] at hA; rw [<-e2] at hB
   refine fn_enter tabOK mixes Tryz.func65 rfl rfl _ Tryz.ntmps65 _ Tryz.results65 (by simp) fun hwf=>?_
   try simp (maxSteps:=9^9) only[go_sem]
   repeat refine And.intro (by first|omega|(constructor<;>omega)|kernel_rfl) ?_
   refine CallW.mk (isOne_fn n) ?_
   try simp (maxSteps:=9^9) only[go_sem]
   try simp (maxSteps:=9^9) only[go_sem,hd,hA,hB]
 ·rcases hend with hs|hA|⟨hA,hB⟩
  ·rw [capR_data hs,m3]
   have hA:¬ (24:Int) < nl q.num.natAbs:=by have:=hs.1; omega
   have hB:¬ (24:Int) < nl q.den:=by have:=hs.2; omega
   have hob:=hob hs
   rw [<-e1] at hA hob; rw [<-e2] at hB hcn; rw [<-e1,<-e2]
   refine fn_enter tabOK mixes Tryz.func65 rfl rfl _ Tryz.ntmps65 _ Tryz.results65 (by simp) fun hwf=>?_
   try simp (maxSteps:=9^9) only[go_sem]
   repeat refine And.intro (by first|omega|(constructor<;>omega)|kernel_rfl) ?_
   refine CallW.mk (isOne_fn n) ?_
   try simp (maxSteps:=9^9) only[go_sem]
   try simp (maxSteps:=9^9) only[go_sem,hd]
   repeat refine And.intro (by first|omega|(constructor<;>omega)|kernel_rfl) ?_
   refine CallW.mk (natGcd_fn z.natAbs n (by omega) (by omega)) ?_
   try simp (maxSteps:=9^9) only[go_sem]
   repeat refine And.intro (by first|omega|(constructor<;>omega)|kernel_rfl) ?_
   refine CallW.mk (isOne_fn (Nat.gcd z.natAbs n)) ?_
   try simp (maxSteps:=9^9) only[go_sem]
   try simp (maxSteps:=9^9) only[go_sem,hd2,hA,hB]
   repeat refine And.intro (by first|omega|(constructor<;>omega)|kernel_rfl) ?_
   refine CallW.mk (hob) ?_
   try simp (maxSteps:=9^9) only[go_sem]
   repeat refine And.intro (by first|omega|(constructor<;>omega)|kernel_rfl) ?_
   refine CallW.mk (hcn) ?_
   try simp (maxSteps:=9^9) only[go_sem]
  ·rw [capR_none (by unfold small; omega)]
   rw [<-e1] at hA
   refine fn_enter tabOK mixes Tryz.func65 rfl rfl _ Tryz.ntmps65 _ Tryz.results65 (by simp) fun hwf=>?_
   try simp (maxSteps:=9^9) only[go_sem]
   repeat refine And.intro (by first|omega|(constructor<;>omega)|kernel_rfl) ?_
   refine CallW.mk (isOne_fn n) ?_
   try simp (maxSteps:=9^9) only[go_sem]
   try simp (maxSteps:=9^9) only[go_sem,hd]
   repeat refine And.intro (by first|omega|(constructor<;>omega)|kernel_rfl) ?_
   refine CallW.mk (natGcd_fn z.natAbs n (by omega) (by omega)) ?_
   try simp (maxSteps:=9^9) only[go_sem]
   repeat refine And.intro (by first|omega|(constructor<;>omega)|kernel_rfl) ?_
   refine CallW.mk (isOne_fn (Nat.gcd z.natAbs n)) ?_
   try simp (maxSteps:=9^9) only[go_sem]
   try simp (maxSteps:=9^9) only[go_sem,hd2,hA]
  ·rw [capR_none (by unfold small; omega)]
   rw [<-e1] at hA; rw [<-e2] at hB
   refine fn_enter tabOK mixes Tryz.func65 rfl rfl _ Tryz.ntmps65 _ Tryz.results65 (by simp) fun hwf=>?_
   try simp (maxSteps:=9^9) only[go_sem]
   repeat refine And.intro (by first|omega|(constructor<;>omega)|kernel_rfl) ?_
   refine CallW.mk (isOne_fn n) ?_
   try simp (maxSteps:=9^9) only[go_sem]
   try simp (maxSteps:=9^9) only[go_sem,hd]
   repeat refine And.intro (by first|omega|(constructor<;>omega)|kernel_rfl) ?_
   refine CallW.mk (natGcd_fn z.natAbs n (by omega) (by omega)) ?_
   try simp (maxSteps:=9^9) only[go_sem]
   repeat refine And.intro (by first|omega|(constructor<;>omega)|kernel_rfl) ?_
   refine CallW.mk (isOne_fn (Nat.gcd z.natAbs n)) ?_
   try simp (maxSteps:=9^9) only[go_sem]
   try simp (maxSteps:=9^9) only[go_sem,hd2,hA,hB]
 ·rcases hend with hs|hA|⟨hA,hB⟩
  ·rw [capR_data hs,m3]
   have hA:¬ (24:Int) < nl q.num.natAbs:=by have:=hs.1; omega
   have hB:¬ (24:Int) < nl q.den:=by have:=hs.2; omega
   have hob:=hob hs
   refine fn_enter tabOK mixes Tryz.func65 rfl rfl _ Tryz.ntmps65 _ Tryz.results65 (by simp) fun hwf=>?_
   try simp (maxSteps:=9^9) only[go_sem]
   repeat refine And.intro (by first|omega|(constructor<;>omega)|kernel_rfl) ?_
   refine CallW.mk (isOne_fn n) ?_
   try simp (maxSteps:=9^9) only[go_sem]
   try simp (maxSteps:=9^9) only[go_sem,hd]
   repeat refine And.intro (by first|omega|(constructor<;>omega)|kernel_rfl) ?_
   refine CallW.mk (natGcd_fn z.natAbs n (by omega) (by omega)) ?_
   try simp (maxSteps:=9^9) only[go_sem]
   repeat refine And.intro (by first|omega|(constructor<;>omega)|kernel_rfl) ?_
   refine CallW.mk (isOne_fn (Nat.gcd z.natAbs n)) ?_
   try simp (maxSteps:=9^9) only[go_sem]
   try simp (maxSteps:=9^9) only[go_sem,hd2]
   have c1:=natDiv_fn z.natAbs (Nat.gcd z.natAbs n) hg0 (by omega) (by omega)
   rw [<-m1] at c1
   repeat refine And.intro (by first|omega|(constructor<;>omega)|kernel_rfl) ?_
   refine CallW.mk (c1) ?_
   try simp (maxSteps:=9^9) only[go_sem]
   have c2:=natDiv_fn n (Nat.gcd z.natAbs n) hg0 (by omega) (by omega)
   rw [<-m2] at c2
   repeat refine And.intro (by first|omega|(constructor<;>omega)|kernel_rfl) ?_
   refine CallW.mk (c2) ?_
   try simp (maxSteps:=9^9) only[go_sem]
   try simp (maxSteps:=9^9) only[go_sem,hA,hB]
   repeat refine And.intro (by first|omega|(constructor<;>omega)|kernel_rfl) ?_
   refine CallW.mk (hob) ?_
   try simp (maxSteps:=9^9) only[go_sem]
   repeat refine And.intro (by first|omega|(constructor<;>omega)|kernel_rfl) ?_
   refine CallW.mk (hcn) ?_
   try simp (maxSteps:=9^9) only[go_sem]
  ·rw [capR_none (by unfold small; omega)]
   refine fn_enter tabOK mixes Tryz.func65 rfl rfl _ Tryz.ntmps65 _ Tryz.results65 (by simp) fun hwf=>?_
   try simp (maxSteps:=9^9) only[go_sem]
   repeat refine And.intro (by first|omega|(constructor<;>omega)|kernel_rfl) ?_
   refine CallW.mk (isOne_fn n) ?_
   try simp (maxSteps:=9^9) only[go_sem]
   try simp (maxSteps:=9^9) only[go_sem,hd]
   repeat refine And.intro (by first|omega|(constructor<;>omega)|kernel_rfl) ?_
   refine CallW.mk (natGcd_fn z.natAbs n (by omega) (by omega)) ?_
   try simp (maxSteps:=9^9) only[go_sem]
   repeat refine And.intro (by first|omega|(constructor<;>omega)|kernel_rfl) ?_
   refine CallW.mk (isOne_fn (Nat.gcd z.natAbs n)) ?_
   try simp (maxSteps:=9^9) only[go_sem]
   try simp (maxSteps:=9^9) only[go_sem,hd2]
   have c1:=natDiv_fn z.natAbs (Nat.gcd z.natAbs n) hg0 (by omega) (by omega)
   rw [<-m1] at c1
   repeat refine And.intro (by first|omega|(constructor<;>omega)|kernel_rfl) ?_
   refine CallW.mk (c1) ?_
   try simp (maxSteps:=9^9) only[go_sem]
   have c2:=natDiv_fn n (Nat.gcd z.natAbs n) hg0 (by omega) (by omega)
   rw [<-m2] at c2
   repeat refine And.intro (by first|omega|(constructor<;>omega)|kernel_rfl) ?_
   refine CallW.mk (c2) ?_
   try simp (maxSteps:=9^9) only[go_sem]
   try simp (maxSteps:=9^9) only[go_sem,hA]
  ·rw [capR_none (by unfold small; omega)]
   refine fn_enter tabOK mixes Tryz.func65 rfl rfl _ Tryz.ntmps65 _ Tryz.results65 (by simp) fun hwf=>?_
   try simp (maxSteps:=9^9) only[go_sem]
   repeat refine And.intro (by first|omega|(constructor<;>omega)|kernel_rfl) ?_
   refine CallW.mk (isOne_fn n) ?_
   try simp (maxSteps:=9^9) only[go_sem]
   try simp (maxSteps:=9^9) only[go_sem,hd]
   repeat refine And.intro (by first|omega|(constructor<;>omega)|kernel_rfl) ?_
   refine CallW.mk (natGcd_fn z.natAbs n (by omega) (by omega)) ?_
   try simp (maxSteps:=9^9) only[go_sem]
   repeat refine And.intro (by first|omega|(constructor<;>omega)|kernel_rfl) ?_
   refine CallW.mk (isOne_fn (Nat.gcd z.natAbs n)) ?_
   try simp (maxSteps:=9^9) only[go_sem]
   try simp (maxSteps:=9^9) only[go_sem,hd2]
   have c1:=natDiv_fn z.natAbs (Nat.gcd z.natAbs n) hg0 (by omega) (by omega)
   rw [<-m1] at c1
   repeat refine And.intro (by first|omega|(constructor<;>omega)|kernel_rfl) ?_
   refine CallW.mk (c1) ?_
   try simp (maxSteps:=9^9) only[go_sem]
   have c2:=natDiv_fn n (Nat.gcd z.natAbs n) hg0 (by omega) (by omega)
   rw [<-m2] at c2
   repeat refine And.intro (by first|omega|(constructor<;>omega)|kernel_rfl) ?_
   refine CallW.mk (c2) ?_
   try simp (maxSteps:=9^9) only[go_sem]
   try simp (maxSteps:=9^9) only[go_sem,hA,hB]
theorem sgn_abs (s:Bool) (a:Nat):(sgn s a).natAbs=a:=by unfold sgn; split<;>omega
theorem sgn_neg (s:Bool) (a:Nat):decide (sgn s a < 0)=(s && decide (0 < a)):=by
 unfold sgn
 cases s
 ·simp
 ·simp<;>omega
theorem l04Low_fn (s:Bool) (a b:Nat) (hb:b ≠ 0) (ha:nl a<=60) (hbl:nl b<=60):Fn Tryz.prog 141 [⟨.bool,s⟩,⟨tInts,natL a⟩,⟨tInts,natL b⟩] true [⟨tRat,oD (capR (_root_.mkRat (sgn s a) b))⟩]:=by
 obtain ⟨m1,m2,m3⟩:=mk_abs (z:=sgn s a) hb
 rw [sgn_abs] at m1 m2
 rw [sgn_neg] at m3
 generalize hq:_root_.mkRat (sgn s a) b=q at *
 have hg0:0 < Nat.gcd a b:=Nat.gcd_pos_of_pos_right _ (Nat.pos_of_ne_zero hb)
 have hl1:=nl_mono (Nat.div_le_self a (Nat.gcd a b))
 have hl2:=nl_mono (Nat.div_le_self b (Nat.gcd a b))
 have hl3:=nl_mono (Nat.gcd_le_right a (Nat.pos_of_ne_zero hb))
 rw [<-m1] at hl1
 rw [<-m2] at hl2
 have hb0:¬ (nl b:Int)=0:=fun h=>hb (nl_eq_zero.1 (by omega))
 have ht1:=l02Trim_fn (natL a)
 rw [trimL_natL] at ht1
 have ht2:=l02Trim_fn (natL b)
 rw [trimL_natL] at ht2
 have hqs:sgn s q.num.natAbs=q.num:=by
  have h1:(0 < a)->0 < q.num.natAbs:=fun h=>by
   rw [m1]; exact Nat.div_pos (Nat.le_of_dvd h (Nat.gcd_dvd_left ..)) hg0
  have h2:a=0->q.num.natAbs=0:=fun h=>by rw [m1,h,Nat.zero_div]
  unfold sgn
  cases s
  ·have:¬ q.num < 0:=by simpa using m3
   simp only [Bool.false_eq_true,if_false]; omega
  ·simp only [if_true]
   rcases Nat.eq_zero_or_pos a with h|h
   ·have:=h2 h; omega
   ·have:=h1 h
    have:q.num < 0:=by simpa [h] using m3
    omega
 have hpath:(decide (b=1)=true/\a=q.num.natAbs/\b=q.den)\/(decide (b=1)=false/\decide (Nat.gcd a b=1)=true/\a=q.num.natAbs/\b=q.den)\/(decide (b=1)=false/\decide (Nat.gcd a b=1)=false):=by
  by_cases h1:b=1
  ·refine .inl ⟨decide_eq_true h1,?_,?_⟩
   ·rw [m1,h1,Nat.gcd_one_right,Nat.div_one]
   ·rw [m2,h1,Nat.gcd_one_right,Nat.div_one]
  ·by_cases h2:Nat.gcd a b=1
   ·exact .inr (.inl ⟨decide_eq_false h1,decide_eq_true h2,by rw [m1,h2,Nat.div_one],by rw [m2,h2,Nat.div_one]⟩)
   ·exact .inr (.inr ⟨decide_eq_false h1,decide_eq_false h2⟩)
 have hob:small q->Fn Tryz.prog 142 [⟨.bool,s⟩,⟨tInts,natL q.num.natAbs⟩] true [⟨tBig,bigD q.num⟩]:=fun hs=>l03Make_to hqs (by have:=hs.1; omega)
 have hend:small q\/(24:Int) < nl q.num.natAbs\/(¬ (24:Int) < nl q.num.natAbs/\(24:Int) < nl q.den):=by unfold small; omega
 rcases hpath with ⟨hd,e1,e2⟩|⟨hd,hd2,e1,e2⟩|⟨hd,hd2⟩
 ·rcases hend with hs|hA|⟨hA,hB⟩
  ·rw [capR_s hs]
   have hA:¬ (24:Int) < nl q.num.natAbs:=by have:=hs.1; omega
   have hB:¬ (24:Int) < nl q.den:=by have:=hs.2; omega
   have hob:=hob hs
   rw [<-e1] at hA hob; rw [<-e2] at hB
   refine fn_enter tabOK mixes Tryz.func141 rfl rfl _ Tryz.ntmps141 _ Tryz.results141 (by simp) fun hwf=>?_
   try simp (maxSteps:=9^9) only[go_sem]
   repeat refine And.intro (by first|omega|(constructor<;>omega)|kernel_rfl) ?_
   refine CallW.mk (ht1) ?_
   try simp (maxSteps:=9^9) only[go_sem]
   repeat refine And.intro (by first|omega|(constructor<;>omega)|kernel_rfl) ?_
   refine CallW.mk (ht2) ?_
   try simp (maxSteps:=9^9) only[go_sem]
   try simp (maxSteps:=9^9) only[go_sem,hb0]
   repeat refine And.intro (by first|omega|(constructor<;>omega)|kernel_rfl) ?_
   refine CallW.mk (l04One_fn b) ?_
   try simp (maxSteps:=9^9) only[go_sem]
   try simp (maxSteps:=9^9) only[go_sem,hd,hA,hB]
   repeat refine And.intro (by first|omega|(constructor<;>omega)|kernel_rfl) ?_
   refine CallW.mk (hob) ?_
   try simp (maxSteps:=9^9) only[go_sem]
   repeat refine And.intro (by first|omega|(constructor<;>omega)|kernel_rfl) ?_
   try simp (maxSteps:=9^9) only[go_sem,e2]
   try omega
  ·rw [capR_none (by unfold small; omega)]
   rw [<-e1] at hA
   refine fn_enter tabOK mixes Tryz.func141 rfl rfl _ Tryz.ntmps141 _ Tryz.results141 (by simp) fun hwf=>?_
   try simp (maxSteps:=9^9) only[go_sem]
   repeat refine And.intro (by first|omega|(constructor<;>omega)|kernel_rfl) ?_
   refine CallW.mk (ht1) ?_
   try simp (maxSteps:=9^9) only[go_sem]
   repeat refine And.intro (by first|omega|(constructor<;>omega)|kernel_rfl) ?_
   refine CallW.mk (ht2) ?_
   try simp (maxSteps:=9^9) only[go_sem]
   try simp (maxSteps:=9^9) only[go_sem,hb0]
   repeat refine And.intro (by first|omega|(constructor<;>omega)|kernel_rfl) ?_
   refine CallW.mk (l04One_fn b) ?_
   try simp (maxSteps:=9^9) only[go_sem]
   try simp (maxSteps:=9^9) only[go_sem,hd,hA]
  ·rw [capR_none (by unfold small; omega)]
   rw [<-e1] at hA; rw [<-e2] at hB
   refine fn_enter tabOK mixes Tryz.func141 rfl rfl _ Tryz.ntmps141 _ Tryz.results141 (by simp) fun hwf=>?_
   try simp (maxSteps:=9^9) only[go_sem]
   repeat refine And.intro (by first|omega|(constructor<;>omega)|kernel_rfl) ?_
   refine CallW.mk (ht1) ?_
   try simp (maxSteps:=9^9) only[go_sem]
   repeat refine And.intro (by first|omega|(constructor<;>omega)|kernel_rfl) ?_
   refine CallW.mk (ht2) ?_
   try simp (maxSteps:=9^9) only[go_sem]
   try simp (maxSteps:=9^9) only[go_sem,hb0]
   repeat refine And.intro (by first|omega|(constructor<;>omega)|kernel_rfl) ?_
   refine CallW.mk (l04One_fn b) ?_
   try simp (maxSteps:=9^9) only[go_sem]
   try simp (maxSteps:=9^9) only[go_sem,hd,hA,hB]
 ·rcases hend with hs|hA|⟨hA,hB⟩
  ·rw [capR_s hs]
   have hA:¬ (24:Int) < nl q.num.natAbs:=by have:=hs.1; omega
   have hB:¬ (24:Int) < nl q.den:=by have:=hs.2; omega
   have hob:=hob hs
   rw [<-e1] at hA hob; rw [<-e2] at hB
   refine fn_enter tabOK mixes Tryz.func141 rfl rfl _ Tryz.ntmps141 _ Tryz.results141 (by simp) fun hwf=>?_
   try simp (maxSteps:=9^9) only[go_sem]
   repeat refine And.intro (by first|omega|(constructor<;>omega)|kernel_rfl) ?_
   refine CallW.mk (ht1) ?_
   try simp (maxSteps:=9^9) only[go_sem]
   repeat refine And.intro (by first|omega|(constructor<;>omega)|kernel_rfl) ?_
   refine CallW.mk (ht2) ?_
   try simp (maxSteps:=9^9) only[go_sem]
   try simp (maxSteps:=9^9) only[go_sem,hb0]
   repeat refine And.intro (by first|omega|(constructor<;>omega)|kernel_rfl) ?_
   refine CallW.mk (l04One_fn b) ?_
   try simp (maxSteps:=9^9) only[go_sem]
   try simp (maxSteps:=9^9) only[go_sem,hd]
   repeat refine And.intro (by first|omega|(constructor<;>omega)|kernel_rfl) ?_
   refine CallW.mk (l02Gcd_fn a b (by omega) (by omega)) ?_
   try simp (maxSteps:=9^9) only[go_sem]
   repeat refine And.intro (by first|omega|(constructor<;>omega)|kernel_rfl) ?_
   refine CallW.mk (l04One_fn (Nat.gcd a b)) ?_
   try simp (maxSteps:=9^9) only[go_sem]
   try simp (maxSteps:=9^9) only[go_sem,hd2,hA,hB]
   repeat refine And.intro (by first|omega|(constructor<;>omega)|kernel_rfl) ?_
   refine CallW.mk (hob) ?_
   try simp (maxSteps:=9^9) only[go_sem]
   repeat refine And.intro (by first|omega|(constructor<;>omega)|kernel_rfl) ?_
   try simp (maxSteps:=9^9) only[go_sem,e2]
   try omega
  ·rw [capR_none (by unfold small; omega)]
   rw [<-e1] at hA
   refine fn_enter tabOK mixes Tryz.func141 rfl rfl _ Tryz.ntmps141 _ Tryz.results141 (by simp) fun hwf=>?_
   try simp (maxSteps:=9^9) only[go_sem]
   repeat refine And.intro (by first|omega|(constructor<;>omega)|kernel_rfl) ?_
   refine CallW.mk (ht1) ?_
   try simp (maxSteps:=9^9) only[go_sem]
   repeat refine And.intro (by first|omega|(constructor<;>omega)|kernel_rfl) ?_
   refine CallW.mk (ht2) ?_
   try simp (maxSteps:=9^9) only[go_sem]
   try simp (maxSteps:=9^9) only[go_sem,hb0]
   repeat refine And.intro (by first|omega|(constructor<;>omega)|kernel_rfl) ?_
   refine CallW.mk (l04One_fn b) ?_
   try simp (maxSteps:=9^9) only[go_sem]
   try simp (maxSteps:=9^9) only[go_sem,hd]
   repeat refine And.intro (by first|omega|(constructor<;>omega)|kernel_rfl) ?_
   refine CallW.mk (l02Gcd_fn a b (by omega) (by omega)) ?_
   try simp (maxSteps:=9^9) only[go_sem]
   repeat refine And.intro (by first|omega|(constructor<;>omega)|kernel_rfl) ?_
   refine CallW.mk (l04One_fn (Nat.gcd a b)) ?_
   try simp (maxSteps:=9^9) only[go_sem]
   try simp (maxSteps:=9^9) only[go_sem,hd2,hA]
  ·rw [capR_none (by unfold small; omega)]
   rw [<-e1] at hA; rw [<-e2] at hB
   refine fn_enter tabOK mixes Tryz.func141 rfl rfl _ Tryz.ntmps141 _ Tryz.results141 (by simp) fun hwf=>?_
   try simp (maxSteps:=9^9) only[go_sem]
   repeat refine And.intro (by first|omega|(constructor<;>omega)|kernel_rfl) ?_
   refine CallW.mk (ht1) ?_
   try simp (maxSteps:=9^9) only[go_sem]
   repeat refine And.intro (by first|omega|(constructor<;>omega)|kernel_rfl) ?_
   refine CallW.mk (ht2) ?_
   try simp (maxSteps:=9^9) only[go_sem]
   try simp (maxSteps:=9^9) only[go_sem,hb0]
   repeat refine And.intro (by first|omega|(constructor<;>omega)|kernel_rfl) ?_
   refine CallW.mk (l04One_fn b) ?_
   try simp (maxSteps:=9^9) only[go_sem]
   try simp (maxSteps:=9^9) only[go_sem,hd]
   repeat refine And.intro (by first|omega|(constructor<;>omega)|kernel_rfl) ?_
   refine CallW.mk (l02Gcd_fn a b (by omega) (by omega)) ?_
   try simp (maxSteps:=9^9) only[go_sem]
   repeat refine And.intro (by first|omega|(constructor<;>omega)|kernel_rfl) ?_
   refine CallW.mk (l04One_fn (Nat.gcd a b)) ?_
   try simp (maxSteps:=9^9) only[go_sem]
   try simp (maxSteps:=9^9) only[go_sem,hd2,hA,hB]
 ·rcases hend with hs|hA|⟨hA,hB⟩
  ·rw [capR_s hs]
   have hA:¬ (24:Int) < nl q.num.natAbs:=by have:=hs.1; omega
   have hB:¬ (24:Int) < nl q.den:=by have:=hs.2; omega
   have hob:=hob hs
   refine fn_enter tabOK mixes Tryz.func141 rfl rfl _ Tryz.ntmps141 _ Tryz.results141 (by simp) fun hwf=>?_
   try simp (maxSteps:=9^9) only[go_sem]
   repeat refine And.intro (by first|omega|(constructor<;>omega)|kernel_rfl) ?_
   refine CallW.mk (ht1) ?_
   try simp (maxSteps:=9^9) only[go_sem]
   repeat refine And.intro (by first|omega|(constructor<;>omega)|kernel_rfl) ?_
   refine CallW.mk (ht2) ?_
   try simp (maxSteps:=9^9) only[go_sem]
   try simp (maxSteps:=9^9) only[go_sem,hb0]
   repeat refine And.intro (by first|omega|(constructor<;>omega)|kernel_rfl) ?_
   refine CallW.mk (l04One_fn b) ?_
   try simp (maxSteps:=9^9) only[go_sem]
   try simp (maxSteps:=9^9) only[go_sem,hd]
   repeat refine And.intro (by first|omega|(constructor<;>omega)|kernel_rfl) ?_
   refine CallW.mk (l02Gcd_fn a b (by omega) (by omega)) ?_
   try simp (maxSteps:=9^9) only[go_sem]
   repeat refine And.intro (by first|omega|(constructor<;>omega)|kernel_rfl) ?_
   refine CallW.mk (l04One_fn (Nat.gcd a b)) ?_
   try simp (maxSteps:=9^9) only[go_sem]
   try simp (maxSteps:=9^9) only[go_sem,hd2]
   have c1:=l02Div_fn a (Nat.gcd a b) hg0 (by omega) (by omega)
   rw [<-m1] at c1
   repeat refine And.intro (by first|omega|(constructor<;>omega)|kernel_rfl) ?_
   refine CallW.mk (c1) ?_
   try simp (maxSteps:=9^9) only[go_sem]
   have c2:=l02Div_fn b (Nat.gcd a b) hg0 (by omega) (by omega)
   rw [<-m2] at c2
   repeat refine And.intro (by first|omega|(constructor<;>omega)|kernel_rfl) ?_
   refine CallW.mk (c2) ?_
   try simp (maxSteps:=9^9) only[go_sem]
   try simp (maxSteps:=9^9) only[go_sem,hA,hB]
   repeat refine And.intro (by first|omega|(constructor<;>omega)|kernel_rfl) ?_
   refine CallW.mk (hob) ?_
   try simp (maxSteps:=9^9) only[go_sem]
   repeat refine And.intro (by first|omega|(constructor<;>omega)|kernel_rfl) ?_
   try simp (maxSteps:=9^9) only[go_sem]
   try omega
  ·rw [capR_none (by unfold small; omega)]
   refine fn_enter tabOK mixes Tryz.func141 rfl rfl _ Tryz.ntmps141 _ Tryz.results141 (by simp) fun hwf=>?_
   try simp (maxSteps:=9^9) only[go_sem]
   repeat refine And.intro (by first|omega|(constructor<;>omega)|kernel_rfl) ?_
   refine CallW.mk (ht1) ?_
   try simp (maxSteps:=9^9) only[go_sem]
   repeat refine And.intro (by first|omega|(constructor<;>omega)|kernel_rfl) ?_
   refine CallW.mk (ht2) ?_
   try simp (maxSteps:=9^9) only[go_sem]
   try simp (maxSteps:=9^9) only[go_sem,hb0]
   repeat refine And.intro (by first|omega|(constructor<;>omega)|kernel_rfl) ?_
   refine CallW.mk (l04One_fn b) ?_
   try simp (maxSteps:=9^9) only[go_sem]
   try simp (maxSteps:=9^9) only[go_sem,hd]
   repeat refine And.intro (by first|omega|(constructor<;>omega)|kernel_rfl) ?_
   refine CallW.mk (l02Gcd_fn a b (by omega) (by omega)) ?_
   try simp (maxSteps:=9^9) only[go_sem]
   repeat refine And.intro (by first|omega|(constructor<;>omega)|kernel_rfl) ?_
   refine CallW.mk (l04One_fn (Nat.gcd a b)) ?_
   try simp (maxSteps:=9^9) only[go_sem]
   try simp (maxSteps:=9^9) only[go_sem,hd2]
   have c1:=l02Div_fn a (Nat.gcd a b) hg0 (by omega) (by omega)
   rw [<-m1] at c1
   repeat refine And.intro (by first|omega|(constructor<;>omega)|kernel_rfl) ?_
   refine CallW.mk (c1) ?_
   try simp (maxSteps:=9^9) only[go_sem]
   have c2:=l02Div_fn b (Nat.gcd a b) hg0 (by omega) (by omega)
   rw [<-m2] at c2
   repeat refine And.intro (by first|omega|(constructor<;>omega)|kernel_rfl) ?_
   refine CallW.mk (c2) ?_
   try simp (maxSteps:=9^9) only[go_sem]
   try simp (maxSteps:=9^9) only[go_sem,hA]
  ·rw [capR_none (by unfold small; omega)]
   refine fn_enter tabOK mixes Tryz.func141 rfl rfl _ Tryz.ntmps141 _ Tryz.results141 (by simp) fun hwf=>?_
   try simp (maxSteps:=9^9) only[go_sem]
   repeat refine And.intro (by first|omega|(constructor<;>omega)|kernel_rfl) ?_
   refine CallW.mk (ht1) ?_
   try simp (maxSteps:=9^9) only[go_sem]
   repeat refine And.intro (by first|omega|(constructor<;>omega)|kernel_rfl) ?_
   refine CallW.mk (ht2) ?_
   try simp (maxSteps:=9^9) only[go_sem]
   try simp (maxSteps:=9^9) only[go_sem,hb0]
   repeat refine And.intro (by first|omega|(constructor<;>omega)|kernel_rfl) ?_
   refine CallW.mk (l04One_fn b) ?_
   try simp (maxSteps:=9^9) only[go_sem]
   try simp (maxSteps:=9^9) only[go_sem,hd]
   repeat refine And.intro (by first|omega|(constructor<;>omega)|kernel_rfl) ?_
   refine CallW.mk (l02Gcd_fn a b (by omega) (by omega)) ?_
   try simp (maxSteps:=9^9) only[go_sem]
   repeat refine And.intro (by first|omega|(constructor<;>omega)|kernel_rfl) ?_
   refine CallW.mk (l04One_fn (Nat.gcd a b)) ?_
   try simp (maxSteps:=9^9) only[go_sem]
   try simp (maxSteps:=9^9) only[go_sem,hd2]
   have c1:=l02Div_fn a (Nat.gcd a b) hg0 (by omega) (by omega)
   rw [<-m1] at c1
   repeat refine And.intro (by first|omega|(constructor<;>omega)|kernel_rfl) ?_
   refine CallW.mk (c1) ?_
   try simp (maxSteps:=9^9) only[go_sem]
   have c2:=l02Div_fn b (Nat.gcd a b) hg0 (by omega) (by omega)
   rw [<-m2] at c2
   repeat refine And.intro (by first|omega|(constructor<;>omega)|kernel_rfl) ?_
   refine CallW.mk (c2) ?_
   try simp (maxSteps:=9^9) only[go_sem]
   try simp (maxSteps:=9^9) only[go_sem,hA,hB]
end Go.Proofs.YtaflkgjckmfkoaaGreat.DW

namespace Go.Proofs.YtaflkgjckmfkoaaGreat.DW
open Go.RowKit
attribute [go_sem] Option.isSome_none bigD_nat
theorem isGood_n:Fn Tryz.prog 39 [⟨tRat,((false,[]),[])⟩] false [⟨.bool,false⟩]:=isGood_fn none
theorem isGood_s (q:Rat):Fn Tryz.prog 39 [⟨tRat,ratD q⟩] false [⟨.bool,true⟩]:=isGood_fn (some q)
theorem ratCmp_fn (x y:Option Rat) (hx:okO x) (hy:okO y):Fn Tryz.prog 36 [⟨tRat,oD x⟩,⟨tRat,oD y⟩] false [⟨.int,cmpO x y⟩]:=by
 cases x with
 | none =>
  refine fn_enter tabOK mixes Tryz.func36 rfl rfl _ Tryz.ntmps36 _ Tryz.results36 (by simp) fun hwf=>?_
  try simp (maxSteps:=9^9) only[go_sem]
  repeat refine And.intro (by first|omega|(constructor<;>omega)|kernel_rfl) ?_
  refine CallW.mk (isGood_n) ?_
  try simp (maxSteps:=9^9) only[go_sem]
  rfl
 | some p =>
  cases y with
  | none =>
   refine fn_enter tabOK mixes Tryz.func36 rfl rfl _ Tryz.ntmps36 _ Tryz.results36 (by simp) fun hwf=>?_
   try simp (maxSteps:=9^9) only[go_sem]
   repeat refine And.intro (by first|omega|(constructor<;>omega)|kernel_rfl) ?_
   refine CallW.mk (isGood_s p) ?_
   try simp (maxSteps:=9^9) only[go_sem]
   repeat refine And.intro (by first|omega|(constructor<;>omega)|kernel_rfl) ?_
   refine CallW.mk (isGood_n) ?_
   try simp (maxSteps:=9^9) only[go_sem]
   rfl
  | some q =>
   obtain ⟨p1,p2⟩:=hx p rfl
   obtain ⟨q1,q2⟩:=hy q rfl
   refine fn_enter tabOK mixes Tryz.func36 rfl rfl _ Tryz.ntmps36 _ Tryz.results36 (by simp) fun hwf=>?_
   try simp (maxSteps:=9^9) only[go_sem]
   repeat refine And.intro (by first|omega|(constructor<;>omega)|kernel_rfl) ?_
   refine CallW.mk (isGood_s p) ?_
   try simp (maxSteps:=9^9) only[go_sem]
   repeat refine And.intro (by first|omega|(constructor<;>omega)|kernel_rfl) ?_
   refine CallW.mk (isGood_s q) ?_
   try simp (maxSteps:=9^9) only[go_sem]
   repeat refine And.intro (by first|omega|(constructor<;>omega)|kernel_rfl) ?_
   refine CallW.mk (bigMulN_fn p.num q.den (by omega) (by omega)) ?_
   try simp (maxSteps:=9^9) only[go_sem]
   repeat refine And.intro (by first|omega|(constructor<;>omega)|kernel_rfl) ?_
   refine CallW.mk (bigMulN_fn q.num p.den (by omega) (by omega)) ?_
   try simp (maxSteps:=9^9) only[go_sem]
   repeat refine And.intro (by first|omega|(constructor<;>omega)|kernel_rfl) ?_
   refine CallW.mk (bigCmp_fn (p.num * q.den) (q.num * p.den)) ?_
   try simp (maxSteps:=9^9) only[go_sem]
   repeat refine And.intro (by first|omega|(constructor<;>omega)|kernel_rfl) ?_
   exact (cmpQ_eq p q).symm
theorem nl_mulZ (a:Int) (n:Nat):nl (a * (n:Int)).natAbs<=nl a.natAbs+nl n:=by
 rw [Int.natAbs_mul,Int.natAbs_natCast]; exact nl_mul _ _
theorem nl_addZ (a b:Int):nl (a+b).natAbs<=max (nl a.natAbs) (nl b.natAbs)+1:=Nat.le_trans (nl_mono (Int.natAbs_add_le a b)) (nl_add _ _)
theorem nl_mulI (a b:Int):nl (a * b).natAbs<=nl a.natAbs+nl b.natAbs:=by
 rw [Int.natAbs_mul]; exact nl_mul _ _
theorem den_mul_ne (p q:Rat):p.den * q.den ≠ 0:=Nat.mul_ne_zero p.den_nz q.den_nz
theorem ratAdd_fn (x y:Option Rat) (hx:okO x) (hy:okO y):Fn Tryz.prog 40 [⟨tRat,oD x⟩,⟨tRat,oD y⟩] true [⟨tRat,oD (addO x y)⟩]:=by
 cases x with
 | none =>
  refine fn_enter tabOK mixes Tryz.func40 rfl rfl _ Tryz.ntmps40 _ Tryz.results40 (by simp) fun hwf=>?_
  try simp (maxSteps:=9^9) only[go_sem]
  repeat refine And.intro (by first|omega|(constructor<;>omega)|kernel_rfl) ?_
  refine CallW.mk (isGood_n) ?_
  try simp (maxSteps:=9^9) only[go_sem]
  try simp (maxSteps:=9^9) only[go_sem,addO]
 | some p =>
  cases y with
  | none =>
   refine fn_enter tabOK mixes Tryz.func40 rfl rfl _ Tryz.ntmps40 _ Tryz.results40 (by simp) fun hwf=>?_
   try simp (maxSteps:=9^9) only[go_sem]
   repeat refine And.intro (by first|omega|(constructor<;>omega)|kernel_rfl) ?_
   refine CallW.mk (isGood_s p) ?_
   try simp (maxSteps:=9^9) only[go_sem]
   repeat refine And.intro (by first|omega|(constructor<;>omega)|kernel_rfl) ?_
   refine CallW.mk (isGood_n) ?_
   try simp (maxSteps:=9^9) only[go_sem]
   try simp (maxSteps:=9^9) only[go_sem,addO]
  | some q =>
   obtain ⟨p1,p2⟩:=hx p rfl
   obtain ⟨q1,q2⟩:=hy q rfl
   have b1:=nl_mulZ p.num q.den
   have b2:=nl_mulZ q.num p.den
   have b3:=nl_addZ (p.num * q.den) (q.num * p.den)
   have b4:=nl_mul p.den q.den
   have hm:=ratMake_end (p.num * q.den+q.num * p.den) (p.den * q.den) (den_mul_ne p q) (by omega) (by omega)
   rw [<-add_mk] at hm
   have e:addO (some p) (some q)=capR (p+q):=rfl
   rw [e]
   refine fn_enter tabOK mixes Tryz.func40 rfl rfl _ Tryz.ntmps40 _ Tryz.results40 (by simp) fun hwf=>?_
   try simp (maxSteps:=9^9) only[go_sem]
   repeat refine And.intro (by first|omega|(constructor<;>omega)|kernel_rfl) ?_
   refine CallW.mk (isGood_s p) ?_
   try simp (maxSteps:=9^9) only[go_sem]
   repeat refine And.intro (by first|omega|(constructor<;>omega)|kernel_rfl) ?_
   refine CallW.mk (isGood_s q) ?_
   try simp (maxSteps:=9^9) only[go_sem]
   repeat refine And.intro (by first|omega|(constructor<;>omega)|kernel_rfl) ?_
   refine CallW.mk (bigMulN_fn p.num q.den (by omega) (by omega)) ?_
   try simp (maxSteps:=9^9) only[go_sem]
   repeat refine And.intro (by first|omega|(constructor<;>omega)|kernel_rfl) ?_
   refine CallW.mk (bigMulN_fn q.num p.den (by omega) (by omega)) ?_
   try simp (maxSteps:=9^9) only[go_sem]
   repeat refine And.intro (by first|omega|(constructor<;>omega)|kernel_rfl) ?_
   refine CallW.mk (bigAdd_fn (p.num * q.den) (q.num * p.den) (by omega) (by omega)) ?_
   try simp (maxSteps:=9^9) only[go_sem]
   repeat refine And.intro (by first|omega|(constructor<;>omega)|kernel_rfl) ?_
   refine CallW.mk (natMul_fn p.den q.den (by omega) (by omega)) ?_
   try simp (maxSteps:=9^9) only[go_sem]
   repeat refine And.intro (by first|omega|(constructor<;>omega)|kernel_rfl) ?_
   refine CallW.mk (hm) ?_
   try simp (maxSteps:=9^9) only[go_sem]
   all_goals repeat refine And.intro (by first|omega|(constructor<;>omega)|kernel_rfl) ?_
   all_goals first|kernel_rfl|omega|rfl
theorem ratNeg_fn (x:Option Rat):Fn Tryz.prog 75 [⟨tRat,oD x⟩] false [⟨tRat,oD (negO x)⟩]:=by
 cases x with
 | none =>
  have hb:=bigNeg_fn 0
  rw [Int.neg_zero,bigD_zero] at hb
  refine fn_enter tabOK mixes Tryz.func75 rfl rfl _ Tryz.ntmps75 _ Tryz.results75 (by simp) fun hwf=>?_
  try simp (maxSteps:=9^9) only[go_sem]
  repeat refine And.intro (by first|omega|(constructor<;>omega)|kernel_rfl) ?_
  refine CallW.mk (hb) ?_
  try simp (maxSteps:=9^9) only[go_sem]
  try simp (maxSteps:=9^9) only[go_sem,negO]
  all_goals repeat refine And.intro (by first|omega|(constructor<;>omega)|kernel_rfl) ?_
  all_goals first|kernel_rfl|omega|rfl
 | some p =>
  refine fn_enter tabOK mixes Tryz.func75 rfl rfl _ Tryz.ntmps75 _ Tryz.results75 (by simp) fun hwf=>?_
  try simp (maxSteps:=9^9) only[go_sem]
  repeat refine And.intro (by first|omega|(constructor<;>omega)|kernel_rfl) ?_
  refine CallW.mk (bigNeg_fn p.num) ?_
  try simp (maxSteps:=9^9) only[go_sem]
  try simp (maxSteps:=9^9) only[go_sem,negO,Rat.neg_num,Rat.neg_den]
  all_goals repeat refine And.intro (by first|omega|(constructor<;>omega)|kernel_rfl) ?_
  all_goals first|kernel_rfl|omega|rfl
theorem ratSub_fn (x y:Option Rat) (hx:okO x) (hy:okO y):Fn Tryz.prog 38 [⟨tRat,oD x⟩,⟨tRat,oD y⟩] true [⟨tRat,oD (subO x y)⟩]:=by
 show Fn _ _ _ _ [⟨tRat,oD (addO x (negO y))⟩]
 have h1:=ratNeg_fn y
 have h2:=ratAdd_fn x (negO y) hx (okO_neg hy)
 refine fn_enter tabOK mixes Tryz.func38 rfl rfl _ Tryz.ntmps38 _ Tryz.results38 (by simp) fun hwf=>?_
 try simp (maxSteps:=9^9) only[go_sem]
 repeat refine And.intro (by first|omega|(constructor<;>omega)|kernel_rfl) ?_
 refine CallW.mk (h1) ?_
 try simp (maxSteps:=9^9) only[go_sem]
 repeat refine And.intro (by first|omega|(constructor<;>omega)|kernel_rfl) ?_
 refine CallW.mk (h2) ?_
 try simp (maxSteps:=9^9) only[go_sem]
 all_goals repeat refine And.intro (by first|omega|(constructor<;>omega)|kernel_rfl) ?_
 all_goals first|kernel_rfl|omega|rfl
theorem cmpQ_zero (p:Rat):cmpQ p 0=cmpZ p.num 0:=by
 rw [cmpQ_eq]
 simp
theorem ratSign_fn (x:Option Rat):Fn Tryz.prog 35 [⟨tRat,oD x⟩] false [⟨.int,sgnO x⟩]:=by
 cases x with
 | none =>
  refine fn_enter tabOK mixes Tryz.func35 rfl rfl _ Tryz.ntmps35 _ Tryz.results35 (by simp) fun hwf=>?_
  try simp (maxSteps:=9^9) only[go_sem]
  repeat refine And.intro (by first|omega|(constructor<;>omega)|kernel_rfl) ?_
  refine CallW.mk (isGood_n) ?_
  try simp (maxSteps:=9^9) only[go_sem]
  try simp (maxSteps:=9^9) only[go_sem,sgnO]
 | some p =>
  have e:sgnO (some p)=cmpZ p.num 0:=cmpQ_zero p
  rw [e]
  by_cases h0:(nl p.num.natAbs:Int)=0
  ·have:p.num=0:=by have:=nl_eq_zero.1 (show nl p.num.natAbs=0 by omega); omega
   refine fn_enter tabOK mixes Tryz.func35 rfl rfl _ Tryz.ntmps35 _ Tryz.results35 (by simp) fun hwf=>?_
   try simp (maxSteps:=9^9) only[go_sem]
   repeat refine And.intro (by first|omega|(constructor<;>omega)|kernel_rfl) ?_
   refine CallW.mk (isGood_s p) ?_
   try simp (maxSteps:=9^9) only[go_sem]
   try simp (maxSteps:=9^9) only[go_sem,h0]
   simp [cmpZ,this]
  ·have h1:p.num ≠ 0:=fun h=>h0 (by rw [h]; simp [nl_zero])
   by_cases h2:p.num < 0
   ·refine fn_enter tabOK mixes Tryz.func35 rfl rfl _ Tryz.ntmps35 _ Tryz.results35 (by simp) fun hwf=>?_
    try simp (maxSteps:=9^9) only[go_sem]
    repeat refine And.intro (by first|omega|(constructor<;>omega)|kernel_rfl) ?_
    refine CallW.mk (isGood_s p) ?_
    try simp (maxSteps:=9^9) only[go_sem]
    try simp (maxSteps:=9^9) only[go_sem,h0,h2]
    simp [cmpZ,h2]
   ·have h3:0 < p.num:=by omega
    refine fn_enter tabOK mixes Tryz.func35 rfl rfl _ Tryz.ntmps35 _ Tryz.results35 (by simp) fun hwf=>?_
    try simp (maxSteps:=9^9) only[go_sem]
    repeat refine And.intro (by first|omega|(constructor<;>omega)|kernel_rfl) ?_
    refine CallW.mk (isGood_s p) ?_
    try simp (maxSteps:=9^9) only[go_sem]
    try simp (maxSteps:=9^9) only[go_sem,h0,h2]
    simp [cmpZ,h2,h3]
noncomputable def maxO:Option Rat->Option Rat->Option Rat
 | some p,some q=>if 0<=cmpQ p q then some p else some q
 | _,_=>none
noncomputable def minO:Option Rat->Option Rat->Option Rat
 | some p,some q=>if cmpQ p q<=0 then some p else some q
 | _,_=>none
theorem okO_max {x y:Option Rat} (hx:okO x) (hy:okO y):okO (maxO x y):=by
 unfold maxO
 split
 ·split
  ·exact hx
  ·exact hy
 ·exact okO_none
theorem okO_min {x y:Option Rat} (hx:okO x) (hy:okO y):okO (minO x y):=by
 unfold minO
 split
 ·split
  ·exact hx
  ·exact hy
 ·exact okO_none
theorem ratMax_fn (x y:Option Rat) (hx:okO x) (hy:okO y):Fn Tryz.prog 112 [⟨tRat,oD x⟩,⟨tRat,oD y⟩] false [⟨tRat,oD (maxO x y)⟩]:=by
 cases x with
 | none =>
  refine fn_enter tabOK mixes Tryz.func112 rfl rfl _ Tryz.ntmps112 _ Tryz.results112 (by simp) fun hwf=>?_
  try simp (maxSteps:=9^9) only[go_sem]
  repeat refine And.intro (by first|omega|(constructor<;>omega)|kernel_rfl) ?_
  refine CallW.mk (isGood_n) ?_
  try simp (maxSteps:=9^9) only[go_sem]
  try simp (maxSteps:=9^9) only[go_sem,maxO]
 | some p =>
  cases y with
  | none =>
   refine fn_enter tabOK mixes Tryz.func112 rfl rfl _ Tryz.ntmps112 _ Tryz.results112 (by simp) fun hwf=>?_
   try simp (maxSteps:=9^9) only[go_sem]
   repeat refine And.intro (by first|omega|(constructor<;>omega)|kernel_rfl) ?_
   refine CallW.mk (isGood_s p) ?_
   try simp (maxSteps:=9^9) only[go_sem]
   repeat refine And.intro (by first|omega|(constructor<;>omega)|kernel_rfl) ?_
   refine CallW.mk (isGood_n) ?_
   try simp (maxSteps:=9^9) only[go_sem]
   try simp (maxSteps:=9^9) only[go_sem,maxO]
  | some q =>
   have hc:=ratCmp_fn (some p) (some q) hx hy
   have e:cmpO (some p) (some q)=cmpQ p q:=rfl
   rw [e] at hc
   by_cases h:0<=cmpQ p q
   ·have e2:maxO (some p) (some q)=some p:=if_pos h
    rw [e2]
    refine fn_enter tabOK mixes Tryz.func112 rfl rfl _ Tryz.ntmps112 _ Tryz.results112 (by simp) fun hwf=>?_
    try simp (maxSteps:=9^9) only[go_sem]
    repeat refine And.intro (by first|omega|(constructor<;>omega)|kernel_rfl) ?_
    refine CallW.mk (isGood_s p) ?_
    try simp (maxSteps:=9^9) only[go_sem]
    repeat refine And.intro (by first|omega|(constructor<;>omega)|kernel_rfl) ?_
    refine CallW.mk (isGood_s q) ?_
    try simp (maxSteps:=9^9) only[go_sem]
    repeat refine And.intro (by first|omega|(constructor<;>omega)|kernel_rfl) ?_
    refine CallW.mk (hc) ?_
    try simp (maxSteps:=9^9) only[go_sem]
    try simp (maxSteps:=9^9) only[go_sem,h]
   ·have e2:maxO (some p) (some q)=some q:=if_neg h
    rw [e2]
    refine fn_enter tabOK mixes Tryz.func112 rfl rfl _ Tryz.ntmps112 _ Tryz.results112 (by simp) fun hwf=>?_
    try simp (maxSteps:=9^9) only[go_sem]
    repeat refine And.intro (by first|omega|(constructor<;>omega)|kernel_rfl) ?_
    refine CallW.mk (isGood_s p) ?_
    try simp (maxSteps:=9^9) only[go_sem]
    repeat refine And.intro (by first|omega|(constructor<;>omega)|kernel_rfl) ?_
    refine CallW.mk (isGood_s q) ?_
    try simp (maxSteps:=9^9) only[go_sem]
    repeat refine And.intro (by first|omega|(constructor<;>omega)|kernel_rfl) ?_
    refine CallW.mk (hc) ?_
    try simp (maxSteps:=9^9) only[go_sem]
    try simp (maxSteps:=9^9) only[go_sem,h]
theorem ownRat_fn (r:DR) (h1:r.1.2.length<=16777216) (h2:r.2.length<=16777216):Fn Tryz.prog 42 [⟨tRat,r⟩] true [⟨tRat,r⟩]:=by
 obtain ⟨⟨s,a⟩,d⟩:=r
 refine fn_enter tabOK mixes Tryz.func42 rfl rfl _ Tryz.ntmps42 _ Tryz.results42 (by simp) fun hwf=>?_
 try simp (maxSteps:=9^9) only[go_sem]
 repeat refine And.intro (by first|omega|(constructor<;>omega)|kernel_rfl) ?_
 refine CallW.mk (clone_fn a h1) ?_
 try simp (maxSteps:=9^9) only[go_sem]
 repeat refine And.intro (by first|omega|(constructor<;>omega)|kernel_rfl) ?_
 refine CallW.mk (clone_fn d h2) ?_
 try simp (maxSteps:=9^9) only[go_sem]
 all_goals repeat refine And.intro (by first|omega|(constructor<;>omega)|kernel_rfl) ?_
 all_goals first|kernel_rfl|omega|rfl
theorem ownO_fn (x:Option Rat) (hx:okO x):Fn Tryz.prog 42 [⟨tRat,oD x⟩] true [⟨tRat,oD x⟩]:=by
 refine ownRat_fn _ ?_ ?_
 ·cases x with
  | none=>exact Nat.zero_le _
  | some q=>have:=(hx q rfl).1; show nl q.num.natAbs<=_; omega
 ·cases x with
  | none=>exact Nat.zero_le _
  | some q=>have:=(hx q rfl).2; show nl q.den<=_; omega
end Go.Proofs.YtaflkgjckmfkoaaGreat.DW

namespace Go.Proofs.YtaflkgjckmfkoaaGreat.DW
open Go.RowKit
theorem sgn_mulN (x:Int) (n:Nat):sgn (decide (x < 0)) (x.natAbs * n)=x * n:=by
 unfold sgn
 by_cases h:x < 0
 ·simp only [h,decide_true,if_true,Int.natCast_mul]
  rw [show (x.natAbs:Int)=-x by omega,Int.neg_mul,Int.neg_neg]
 ·simp only [h,decide_false,Bool.false_eq_true,if_false,Int.natCast_mul]
  rw [show (x.natAbs:Int)=x by omega]
theorem natL_1:natL 1=[1]:=natL_one (by decide) (by decide)
theorem l04Add_fn (p q:Rat) (hp:small p) (hq:small q):Fn Tryz.prog 103 [⟨tRat,ratD p⟩,⟨tRat,ratD q⟩] true [⟨tRat,oD (capR (p+q))⟩]:=by
 obtain ⟨p1,p2⟩:=hp
 obtain ⟨q1,q2⟩:=hq
 have b1:=nl_mulZ p.num q.den
 have b2:=nl_mulZ q.num p.den
 have b3:=nl_addZ (p.num * q.den) (q.num * p.den)
 have b4:=nl_mul p.den q.den
 have b5:=nl_mul p.num.natAbs q.den
 have b6:=nl_mul q.num.natAbs p.den
 have b7:=nl_addZ p.num q.num
 have hl:=l04Low_fn (decide (p.num * q.den+q.num * p.den < 0)) (p.num * q.den+q.num * p.den).natAbs (p.den * q.den) (den_mul_ne p q) (by omega) (by omega)
 rw [sgn_bigD,<-add_mk] at hl
 by_cases h1:p.den=1
 ·by_cases h2:q.den=1
  ·have hl1:=l04Low_fn (decide (p.num+q.num < 0)) (p.num+q.num).natAbs 1 (by decide) (by omega) (by have:=nl_small (n:=1) (by decide); omega)
   have e:_root_.mkRat (p.num+q.num) 1=p+q:=by rw [add_mk,h1,h2]; simp
   rw [sgn_bigD,natL_1,e] at hl1
   have d1:decide (p.den=1)=true:=decide_eq_true h1
   have d2:decide (q.den=1)=true:=decide_eq_true h2
   refine fn_enter tabOK mixes Tryz.func103 rfl rfl _ Tryz.ntmps103 _ Tryz.results103 (by simp) fun hwf=>?_
   try simp (maxSteps:=9^9) only[go_sem]
   repeat refine And.intro (by first|omega|(constructor<;>omega)|kernel_rfl) ?_
   refine CallW.mk (l04One_fn p.den) ?_
   try simp (maxSteps:=9^9) only[go_sem]
   try simp (maxSteps:=9^9) only[go_sem,d1]
   repeat refine And.intro (by first|omega|(constructor<;>omega)|kernel_rfl) ?_
   refine CallW.mk (l04One_fn q.den) ?_
   try simp (maxSteps:=9^9) only[go_sem]
   try simp (maxSteps:=9^9) only[go_sem,d2]
   repeat refine And.intro (by first|omega|(constructor<;>omega)|kernel_rfl) ?_
   refine CallW.mk (l03Add_fn p.num q.num (by omega) (by omega)) ?_
   try simp (maxSteps:=9^9) only[go_sem]
   repeat refine And.intro (by first|omega|(constructor<;>omega)|kernel_rfl) ?_
   refine CallW.mk (hl1) ?_
   try simp (maxSteps:=9^9) only[go_sem]
   all_goals repeat refine And.intro (by first|omega|(constructor<;>omega)|kernel_rfl) ?_
   all_goals first|kernel_rfl|omega|rfl
  ·have d1:decide (p.den=1)=true:=decide_eq_true h1
   have d2:decide (q.den=1)=false:=decide_eq_false h2
   refine fn_enter tabOK mixes Tryz.func103 rfl rfl _ Tryz.ntmps103 _ Tryz.results103 (by simp) fun hwf=>?_
   try simp (maxSteps:=9^9) only[go_sem]
   repeat refine And.intro (by first|omega|(constructor<;>omega)|kernel_rfl) ?_
   refine CallW.mk (l04One_fn p.den) ?_
   try simp (maxSteps:=9^9) only[go_sem]
   try simp (maxSteps:=9^9) only[go_sem,d1]
   repeat refine And.intro (by first|omega|(constructor<;>omega)|kernel_rfl) ?_
   refine CallW.mk (l04One_fn q.den) ?_
   try simp (maxSteps:=9^9) only[go_sem]
   try simp (maxSteps:=9^9) only[go_sem,d2]
   repeat refine And.intro (by first|omega|(constructor<;>omega)|kernel_rfl) ?_
   refine CallW.mk (l02Mul_fn p.num.natAbs q.den (by omega) (by omega)) ?_
   try simp (maxSteps:=9^9) only[go_sem]
   repeat refine And.intro (by first|omega|(constructor<;>omega)|kernel_rfl) ?_
   refine CallW.mk (l03Make_to (sgn_mulN p.num q.den) (by omega)) ?_
   try simp (maxSteps:=9^9) only[go_sem]
   repeat refine And.intro (by first|omega|(constructor<;>omega)|kernel_rfl) ?_
   refine CallW.mk (l02Mul_fn q.num.natAbs p.den (by omega) (by omega)) ?_
   try simp (maxSteps:=9^9) only[go_sem]
   repeat refine And.intro (by first|omega|(constructor<;>omega)|kernel_rfl) ?_
   refine CallW.mk (l03Make_to (sgn_mulN q.num p.den) (by omega)) ?_
   try simp (maxSteps:=9^9) only[go_sem]
   repeat refine And.intro (by first|omega|(constructor<;>omega)|kernel_rfl) ?_
   refine CallW.mk (l03Add_fn (p.num * q.den) (q.num * p.den) (by omega) (by omega)) ?_
   try simp (maxSteps:=9^9) only[go_sem]
   repeat refine And.intro (by first|omega|(constructor<;>omega)|kernel_rfl) ?_
   refine CallW.mk (l02Mul_fn p.den q.den (by omega) (by omega)) ?_
   try simp (maxSteps:=9^9) only[go_sem]
   repeat refine And.intro (by first|omega|(constructor<;>omega)|kernel_rfl) ?_
   refine CallW.mk (hl) ?_
   try simp (maxSteps:=9^9) only[go_sem]
   all_goals repeat refine And.intro (by first|omega|(constructor<;>omega)|kernel_rfl) ?_
   all_goals first|kernel_rfl|omega|rfl
 ·have d1:decide (p.den=1)=false:=decide_eq_false h1
  refine fn_enter tabOK mixes Tryz.func103 rfl rfl _ Tryz.ntmps103 _ Tryz.results103 (by simp) fun hwf=>?_
  try simp (maxSteps:=9^9) only[go_sem]
  repeat refine And.intro (by first|omega|(constructor<;>omega)|kernel_rfl) ?_
  refine CallW.mk (l04One_fn p.den) ?_
  try simp (maxSteps:=9^9) only[go_sem]
  try simp (maxSteps:=9^9) only[go_sem,d1]
  repeat refine And.intro (by first|omega|(constructor<;>omega)|kernel_rfl) ?_
  refine CallW.mk (l02Mul_fn p.num.natAbs q.den (by omega) (by omega)) ?_
  try simp (maxSteps:=9^9) only[go_sem]
  repeat refine And.intro (by first|omega|(constructor<;>omega)|kernel_rfl) ?_
  refine CallW.mk (l03Make_to (sgn_mulN p.num q.den) (by omega)) ?_
  try simp (maxSteps:=9^9) only[go_sem]
  repeat refine And.intro (by first|omega|(constructor<;>omega)|kernel_rfl) ?_
  refine CallW.mk (l02Mul_fn q.num.natAbs p.den (by omega) (by omega)) ?_
  try simp (maxSteps:=9^9) only[go_sem]
  repeat refine And.intro (by first|omega|(constructor<;>omega)|kernel_rfl) ?_
  refine CallW.mk (l03Make_to (sgn_mulN q.num p.den) (by omega)) ?_
  try simp (maxSteps:=9^9) only[go_sem]
  repeat refine And.intro (by first|omega|(constructor<;>omega)|kernel_rfl) ?_
  refine CallW.mk (l03Add_fn (p.num * q.den) (q.num * p.den) (by omega) (by omega)) ?_
  try simp (maxSteps:=9^9) only[go_sem]
  repeat refine And.intro (by first|omega|(constructor<;>omega)|kernel_rfl) ?_
  refine CallW.mk (l02Mul_fn p.den q.den (by omega) (by omega)) ?_
  try simp (maxSteps:=9^9) only[go_sem]
  repeat refine And.intro (by first|omega|(constructor<;>omega)|kernel_rfl) ?_
  refine CallW.mk (hl) ?_
  try simp (maxSteps:=9^9) only[go_sem]
  all_goals repeat refine And.intro (by first|omega|(constructor<;>omega)|kernel_rfl) ?_
  all_goals first|kernel_rfl|omega|rfl
end Go.Proofs.YtaflkgjckmfkoaaGreat.DW

namespace Go.Proofs.YtaflkgjckmfkoaaGreat.DW
open Go.RowKit
theorem indexFunc_rat_fn (F:FuncId) (p:DR->Bool) (hF:∀ x:DR,Fn Tryz.prog F [⟨tRat,x⟩] false [⟨.bool,p x⟩]) (l:List DR):Fn Tryz.prog 106 [⟨.slice tRat,l⟩,⟨.cst (.fn F),()⟩] false [⟨.int,ixf (t:=tRat) p l⟩]:=by
 refine fn_enter tabOK mixes Tryz.func106 rfl rfl _ Tryz.ntmps106 _ Tryz.results106 (by simp) fun hwf=>?_
 have hl:l.length<=9223372036854775807:=(hwf ⟨.slice tRat,l⟩ (by simp)).1
 try simp (maxSteps:=9^9) only[go_sem]
 refine LoopG.intro _ _ _ (fun i:Nat=>⟨[(0,.sl tRat l),(1,.sc (.func (.func F) #[] #[])),(7,.sc (.int .i64 l.length)),(8,.sc (.int .i64 i))],[]⟩) (fun i=>∀ j < i,j < l.length->p (nth (t:=tRat) l j)=false) (fun i=>l.length - i) 0 ?_ (fun j h=>by simp at h) ?_
 ·refine Wk.mk [] ?_
  try simp (maxSteps:=9^9) only[go_sem]
  try (and_intros<;>first|rfl|omega|exact ⟨_,rfl⟩)
 ·rintro i h2
  try simp (maxSteps:=9^9) only[go_sem]
  refine CondW_dec (fun h3=>?_) (fun h3=>?_)
  ·try simp (maxSteps:=9^9) only[go_sem]
   repeat refine And.intro (by first|omega|(constructor<;>omega)|kernel_rfl) ?_
   refine CallW.mk (hF (nth (t:=tRat) l i)) ?_
   try simp (maxSteps:=9^9) only[go_sem]
   refine CondW_b (fun h4=>?_) (fun h4=>?_)
   ·try simp (maxSteps:=9^9) only[go_sem]
    exact (ixf_at (by omega) h4 (fun j hj=>h2 j hj (by omega))).symm
   ·try simp (maxSteps:=9^9) only[go_sem]
    repeat refine And.intro (by first|omega|(constructor<;>omega)|kernel_rfl) ?_
    refine LoopK.mk (i+1) ?_ (fun j hj hl=>?_) (by omega)
    ·refine Wk.mk [] ?_
     try simp (maxSteps:=9^9) only[go_sem]
     try (and_intros<;>first|rfl|omega|exact ⟨_,rfl⟩)
    ·by_cases hj2:j < i
     ·exact h2 j hj2 hl
     ·rw [show j=i by omega]; exact h4
  ·try simp (maxSteps:=9^9) only[go_sem]
   exact (ixf_none fun j hj=>h2 j (by omega) hj).symm
theorem containsFunc_rat_fn (F:FuncId) (p:DR->Bool) (hF:∀ x:DR,Fn Tryz.prog F [⟨tRat,x⟩] false [⟨.bool,p x⟩]) (l:List DR):Fn Tryz.prog 59 [⟨.slice tRat,l⟩,⟨.cst (.fn F),()⟩] false [⟨.bool,l.any p⟩]:=by
 refine fn_enter tabOK mixes Tryz.func59 rfl rfl _ Tryz.ntmps59 _ Tryz.results59 (by simp) fun hwf=>?_
 try simp (maxSteps:=9^9) only[go_sem]
 repeat refine And.intro (by first|omega|(constructor<;>omega)|kernel_rfl) ?_
 refine CallW.mk (indexFunc_rat_fn F p hF l) ?_
 try simp (maxSteps:=9^9) only[go_sem]
 exact ixf_any
theorem allRatsC_fn (r:DR):Fn Tryz.prog 72 [⟨tRat,r⟩] false [⟨.bool,!okR r⟩]:=by
 refine fn_enter tabOK mixes Tryz.func72 rfl rfl _ Tryz.ntmps72 _ Tryz.results72 (by simp) fun hwf=>?_
 try simp (maxSteps:=9^9) only[go_sem]
 repeat refine And.intro (by first|omega|(constructor<;>omega)|kernel_rfl) ?_
 refine CallW.mk (implRatOk_fn r) ?_
 try simp (maxSteps:=9^9) only[go_sem]
theorem allRats_fn (l:List DR):Fn Tryz.prog 33 [⟨.slice tRat,l⟩] false [⟨.bool,!(l.any fun r=>!okR r)⟩]:=by
 refine fn_enter tabOK mixes Tryz.func33 rfl rfl _ Tryz.ntmps33 _ Tryz.results33 (by simp) fun hwf=>?_
 try simp (maxSteps:=9^9) only[go_sem]
 repeat refine And.intro (by first|omega|(constructor<;>omega)|kernel_rfl) ?_
 refine CallW.mk (containsFunc_rat_fn _ _ allRatsC_fn l) ?_
 try simp (maxSteps:=9^9) only[go_sem]
theorem okR_oD {r:DR} (h:okR r=true):oD (rdO r)=r:=by
 obtain ⟨q,_,e1,e2⟩:=okR_t h
 rw [e2,e1]; rfl
theorem all_ok {l:List DR} (h:l.any (fun r=>!okR r)=false) {i:Nat} (hi:i < l.length):okR (nth (t:=tRat) l i)=true:=by
 rw [List.any_eq_false] at h
 rw [nth_lt hi]
 have:=h _ (List.getElem_mem hi)
 simpa using this
def fasterP (v w:List DR):Prop:=v.length=w.length/\v.any (fun r=>!okR r)=false/\w.any (fun r=>!okR r)=false/\∀ i < v.length,0<=cmpO (rdO (nth (t:=tRat) v i)) (rdO (nth (t:=tRat) w i))
theorem implFaster_fn (v w:List DR):Fn Tryz.prog 12 [⟨.slice tRat,v⟩,⟨.slice tRat,w⟩] false [⟨.bool,bdec (fasterP v w)⟩]:=by
 by_cases h1:(v.length:Int)=w.length
 rotate_left
 ·rw [bdec_f fun h=>h1 (by rw [h.1])]
  refine fn_enter tabOK mixes Tryz.func12 rfl rfl _ Tryz.ntmps12 _ Tryz.results12 (by simp) fun hwf=>?_
  try simp (maxSteps:=9^9) only[go_sem,h1]
 cases h2:v.any (fun r=>!okR r)
 rotate_left
 ·rw [bdec_f fun h=>by rw [h.2.1] at h2; cases h2]
  refine fn_enter tabOK mixes Tryz.func12 rfl rfl _ Tryz.ntmps12 _ Tryz.results12 (by simp) fun hwf=>?_
  try simp (maxSteps:=9^9) only[go_sem,h1]
  repeat refine And.intro (by first|omega|(constructor<;>omega)|kernel_rfl) ?_
  refine CallW.mk (allRats_fn v) ?_
  try simp (maxSteps:=9^9) only[go_sem]
  try simp (maxSteps:=9^9) only[go_sem,h2]
 cases h3:w.any (fun r=>!okR r)
 rotate_left
 ·rw [bdec_f fun h=>by rw [h.2.2.1] at h3; cases h3]
  refine fn_enter tabOK mixes Tryz.func12 rfl rfl _ Tryz.ntmps12 _ Tryz.results12 (by simp) fun hwf=>?_
  try simp (maxSteps:=9^9) only[go_sem,h1]
  repeat refine And.intro (by first|omega|(constructor<;>omega)|kernel_rfl) ?_
  refine CallW.mk (allRats_fn v) ?_
  try simp (maxSteps:=9^9) only[go_sem]
  try simp (maxSteps:=9^9) only[go_sem,h2]
  repeat refine And.intro (by first|omega|(constructor<;>omega)|kernel_rfl) ?_
  refine CallW.mk (allRats_fn w) ?_
  try simp (maxSteps:=9^9) only[go_sem]
  try simp (maxSteps:=9^9) only[go_sem,h3]
 refine fn_enter tabOK mixes Tryz.func12 rfl rfl _ Tryz.ntmps12 _ Tryz.results12 (by simp) fun hwf=>?_
 have hl:v.length<=9223372036854775807:=(hwf ⟨.slice tRat,v⟩ (by simp)).1
 try simp (maxSteps:=9^9) only[go_sem,h1]
 repeat refine And.intro (by first|omega|(constructor<;>omega)|kernel_rfl) ?_
 refine CallW.mk (allRats_fn v) ?_
 try simp (maxSteps:=9^9) only[go_sem]
 try simp (maxSteps:=9^9) only[go_sem,h2]
 repeat refine And.intro (by first|omega|(constructor<;>omega)|kernel_rfl) ?_
 refine CallW.mk (allRats_fn w) ?_
 try simp (maxSteps:=9^9) only[go_sem]
 try simp (maxSteps:=9^9) only[go_sem,h3]
 refine LoopG.intro _ _ _ (fun i:Nat=>⟨[(0,.sl tRat v),(1,.sl tRat w),(21,.sl tRat v),(22,.sc (.int .i64 w.length)),(23,.sc (.int .i64 i))],[]⟩) (fun i=>∀ j < i,j < v.length->0<=cmpO (rdO (nth (t:=tRat) v j)) (rdO (nth (t:=tRat) w j))) (fun i=>v.length - i) 0 ?_ (fun j h=>by omega) ?_
 ·refine Wk.mk [] ?_
  try simp (maxSteps:=9^9) only[go_sem]
  try (and_intros<;>first|rfl|omega|exact ⟨_,rfl⟩)
 ·rintro i g1
  try simp (maxSteps:=9^9) only[go_sem]
  refine CondW_dec (fun hA=>?_) (fun hA=>?_)
  ·have ev:=okR_oD (all_ok h2 (i:=i) (by omega))
   have ew:=okR_oD (all_ok h3 (i:=i) (by omega))
   have hc:=ratCmp_fn (rdO (nth (t:=tRat) v i)) (rdO (nth (t:=tRat) w i)) (okO_rdO _) (okO_rdO _)
   rw [ev,ew] at hc
   try simp (maxSteps:=9^9) only[go_sem]
   repeat refine And.intro (by first|omega|(constructor<;>omega)|kernel_rfl) ?_
   refine CallW.mk (hc) ?_
   try simp (maxSteps:=9^9) only[go_sem]
   repeat refine And.intro (by first|omega|(constructor<;>omega)|kernel_rfl) ?_
   refine CondW_dec (fun hB=>?_) (fun hB=>?_)
   ·rw [bdec_f fun h=>by have:=h.2.2.2 i (by omega); omega]
    try simp (maxSteps:=9^9) only[go_sem]
   ·try simp (maxSteps:=9^9) only[go_sem]
    repeat refine And.intro (by first|omega|(constructor<;>omega)|kernel_rfl) ?_
    refine LoopK.mk (i+1) ?_ (fun j hj hjl=>?_) (by omega)
    ·refine Wk.mk [] ?_
     try simp (maxSteps:=9^9) only[go_sem]
     try (and_intros<;>first|rfl|omega|exact ⟨_,rfl⟩)
    ·by_cases hji:j < i
     ·exact g1 j hji hjl
     ·rw [show j=i by omega]; omega
  ·rw [bdec_t ⟨by omega,h2,h3,fun i hi=>g1 i (by omega) hi⟩]
   try simp (maxSteps:=9^9) only[go_sem]
end Go.Proofs.YtaflkgjckmfkoaaGreat.DW

namespace Go.Proofs.YtaflkgjckmfkoaaGreat.DW
open Go.RowKit
attribute [go_sem] Prod.eta
abbrev DP:Type:=DR × DR
noncomputable def okPt (p:DP):Bool:=okR p.1 && okR p.2
theorem implIsValidPoint_fn (p:DP):Fn Tryz.prog 91 [⟨tPoint,p⟩] false [⟨.bool,okPt p⟩]:=by
 cases h:okR p.1
 ·refine fn_enter tabOK mixes Tryz.func91 rfl rfl _ Tryz.ntmps91 _ Tryz.results91 (by simp) fun hwf=>?_
  try simp (maxSteps:=9^9) only[go_sem]
  repeat refine And.intro (by first|omega|(constructor<;>omega)|kernel_rfl) ?_
  refine CallW.mk (implRatOk_fn p.1) ?_
  try simp (maxSteps:=9^9) only[go_sem]
  try simp (maxSteps:=9^9) only[go_sem,h]
  repeat refine And.intro (by first|omega|(constructor<;>omega)|kernel_rfl) ?_
  simp [okPt,h]
 ·refine fn_enter tabOK mixes Tryz.func91 rfl rfl _ Tryz.ntmps91 _ Tryz.results91 (by simp) fun hwf=>?_
  try simp (maxSteps:=9^9) only[go_sem]
  repeat refine And.intro (by first|omega|(constructor<;>omega)|kernel_rfl) ?_
  refine CallW.mk (implRatOk_fn p.1) ?_
  try simp (maxSteps:=9^9) only[go_sem]
  try simp (maxSteps:=9^9) only[go_sem,h]
  repeat refine And.intro (by first|omega|(constructor<;>omega)|kernel_rfl) ?_
  refine CallW.mk (implRatOk_fn p.2) ?_
  try simp (maxSteps:=9^9) only[go_sem]
  repeat refine And.intro (by first|omega|(constructor<;>omega)|kernel_rfl) ?_
  simp [okPt,h]
theorem indexFunc_pt_fn (F:FuncId) (p:DP->Bool) (hF:∀ x:DP,Fn Tryz.prog F [⟨tPoint,x⟩] false [⟨.bool,p x⟩]) (l:List DP):Fn Tryz.prog 126 [⟨.slice tPoint,l⟩,⟨.cst (.fn F),()⟩] false [⟨.int,ixf (t:=tPoint) p l⟩]:=by
 refine fn_enter tabOK mixes Tryz.func126 rfl rfl _ Tryz.ntmps126 _ Tryz.results126 (by simp) fun hwf=>?_
 have hl:l.length<=9223372036854775807:=(hwf ⟨.slice tPoint,l⟩ (by simp)).1
 try simp (maxSteps:=9^9) only[go_sem]
 refine LoopG.intro _ _ _ (fun i:Nat=>⟨[(0,.sl tPoint l),(1,.sc (.func (.func F) #[] #[])),(7,.sc (.int .i64 l.length)),(8,.sc (.int .i64 i))],[]⟩) (fun i=>∀ j < i,j < l.length->p (nth (t:=tPoint) l j)=false) (fun i=>l.length - i) 0 ?_ (fun j h=>by simp at h) ?_
 ·refine Wk.mk [] ?_
  try simp (maxSteps:=9^9) only[go_sem]
  try (and_intros<;>first|rfl|omega|exact ⟨_,rfl⟩)
 ·rintro i h2
  try simp (maxSteps:=9^9) only[go_sem]
  refine CondW_dec (fun h3=>?_) (fun h3=>?_)
  ·try simp (maxSteps:=9^9) only[go_sem]
   repeat refine And.intro (by first|omega|(constructor<;>omega)|kernel_rfl) ?_
   refine CallW.mk (hF (nth (t:=tPoint) l i)) ?_
   try simp (maxSteps:=9^9) only[go_sem]
   refine CondW_b (fun h4=>?_) (fun h4=>?_)
   ·try simp (maxSteps:=9^9) only[go_sem]
    exact (ixf_at (by omega) h4 (fun j hj=>h2 j hj (by omega))).symm
   ·try simp (maxSteps:=9^9) only[go_sem]
    repeat refine And.intro (by first|omega|(constructor<;>omega)|kernel_rfl) ?_
    refine LoopK.mk (i+1) ?_ (fun j hj hl=>?_) (by omega)
    ·refine Wk.mk [] ?_
     try simp (maxSteps:=9^9) only[go_sem]
     try (and_intros<;>first|rfl|omega|exact ⟨_,rfl⟩)
    ·by_cases hj2:j < i
     ·exact h2 j hj2 hl
     ·rw [show j=i by omega]; exact h4
  ·try simp (maxSteps:=9^9) only[go_sem]
   exact (ixf_none fun j hj=>h2 j (by omega) hj).symm
theorem containsFunc_pt_fn (F:FuncId) (p:DP->Bool) (hF:∀ x:DP,Fn Tryz.prog F [⟨tPoint,x⟩] false [⟨.bool,p x⟩]) (l:List DP):Fn Tryz.prog 89 [⟨.slice tPoint,l⟩,⟨.cst (.fn F),()⟩] false [⟨.bool,l.any p⟩]:=by
 refine fn_enter tabOK mixes Tryz.func89 rfl rfl _ Tryz.ntmps89 _ Tryz.results89 (by simp) fun hwf=>?_
 try simp (maxSteps:=9^9) only[go_sem]
 repeat refine And.intro (by first|omega|(constructor<;>omega)|kernel_rfl) ?_
 refine CallW.mk (indexFunc_pt_fn F p hF l) ?_
 try simp (maxSteps:=9^9) only[go_sem]
 exact ixf_any
theorem arePointsC_fn (p:DP):Fn Tryz.prog 90 [⟨tPoint,p⟩] false [⟨.bool,!okPt p⟩]:=by
 refine fn_enter tabOK mixes Tryz.func90 rfl rfl _ Tryz.ntmps90 _ Tryz.results90 (by simp) fun hwf=>?_
 try simp (maxSteps:=9^9) only[go_sem]
 repeat refine And.intro (by first|omega|(constructor<;>omega)|kernel_rfl) ?_
 refine CallW.mk (implIsValidPoint_fn p) ?_
 try simp (maxSteps:=9^9) only[go_sem]
theorem arePoints_fn (l:List DP):Fn Tryz.prog 48 [⟨.slice tPoint,l⟩] false [⟨.bool,!(l.any fun p=>!okPt p)⟩]:=by
 refine fn_enter tabOK mixes Tryz.func48 rfl rfl _ Tryz.ntmps48 _ Tryz.results48 (by simp) fun hwf=>?_
 try simp (maxSteps:=9^9) only[go_sem]
 repeat refine And.intro (by first|omega|(constructor<;>omega)|kernel_rfl) ?_
 refine CallW.mk (containsFunc_pt_fn _ _ arePointsC_fn l) ?_
 try simp (maxSteps:=9^9) only[go_sem]
theorem arePoints2_fn (p q:DP):Fn Tryz.prog 48 [⟨.slice tPoint,[p,q]⟩] false [⟨.bool,okPt p && okPt q⟩]:=by
 have h:=arePoints_fn [p,q]
 have e:(!([p,q].any fun p=>!okPt p))=(okPt p && okPt q):=by simp
 rw [e] at h; exact h
noncomputable def sizeO (x:Option Rat):Option Rat:=if sgnO x < 0 then negO x else x
theorem okO_size {x:Option Rat} (h:okO x):okO (sizeO x):=by
 unfold sizeO; split
 ·exact okO_neg h
 ·exact h
theorem sizeO_none:sizeO none=none:=by unfold sizeO; split<;>rfl
theorem size_fn (x:Option Rat):Fn Tryz.prog 37 [⟨tRat,oD x⟩] false [⟨tRat,oD (sizeO x)⟩]:=by
 have h1:=ratSign_fn x
 have h2:=ratNeg_fn x
 unfold sizeO
 by_cases h:sgnO x < 0
 ·rw [if_pos h]
  refine fn_enter tabOK mixes Tryz.func37 rfl rfl _ Tryz.ntmps37 _ Tryz.results37 (by simp) fun hwf=>?_
  try simp (maxSteps:=9^9) only[go_sem]
  repeat refine And.intro (by first|omega|(constructor<;>omega)|kernel_rfl) ?_
  refine CallW.mk (h1) ?_
  try simp (maxSteps:=9^9) only[go_sem]
  try simp (maxSteps:=9^9) only[go_sem,h]
  repeat refine And.intro (by first|omega|(constructor<;>omega)|kernel_rfl) ?_
  refine CallW.mk (h2) ?_
  try simp (maxSteps:=9^9) only[go_sem]
  all_goals repeat refine And.intro (by first|omega|(constructor<;>omega)|kernel_rfl) ?_
  all_goals first|kernel_rfl|omega|rfl
 ·rw [if_neg h]
  refine fn_enter tabOK mixes Tryz.func37 rfl rfl _ Tryz.ntmps37 _ Tryz.results37 (by simp) fun hwf=>?_
  try simp (maxSteps:=9^9) only[go_sem]
  repeat refine And.intro (by first|omega|(constructor<;>omega)|kernel_rfl) ?_
  refine CallW.mk (h1) ?_
  try simp (maxSteps:=9^9) only[go_sem]
  try simp (maxSteps:=9^9) only[go_sem,h]
  all_goals repeat refine And.intro (by first|omega|(constructor<;>omega)|kernel_rfl) ?_
  all_goals first|kernel_rfl|omega|rfl
theorem subO_none_l (y:Option Rat):subO none y=none:=rfl
theorem subO_none_r (x:Option Rat):subO x none=none:=by cases x<;>rfl
theorem maxO_n1 (y:Option Rat):maxO none y=none:=rfl
theorem maxO_n2 (x:Option Rat):maxO x none=none:=by cases x<;>rfl
noncomputable def mvO (p q:DP):Option Rat:=maxO (sizeO (subO (rdO q.1) (rdO p.1))) (sizeO (subO (rdO q.2) (rdO p.2)))
theorem okO_mv (p q:DP):okO (mvO p q):=okO_max (okO_size (okO_sub _ _)) (okO_size (okO_sub _ _))
theorem mvO_bad {p q:DP} (h:(okPt p && okPt q)=false):mvO p q=none:=by
 unfold mvO
 have hb:rdO p.1=none\/rdO p.2=none\/rdO q.1=none\/rdO q.2=none:=by
  simp only [okPt,Bool.and_eq_false_iff] at h
  rcases h with (h|h)|(h|h)
  ·exact .inl (okR_f h)
  ·exact .inr (.inl (okR_f h))
  ·exact .inr (.inr (.inl (okR_f h)))
  ·exact .inr (.inr (.inr (okR_f h)))
 rcases hb with h|h|h|h<;>rw [h]
 ·rw [subO_none_r,sizeO_none,maxO_n1]
 ·rw [subO_none_r,sizeO_none,maxO_n2]
 ·rw [subO_none_l,sizeO_none,maxO_n1]
 ·rw [subO_none_l,sizeO_none,maxO_n2]
theorem moveLength_fn (p q:DP):Fn Tryz.prog 73 [⟨tPoint,p⟩,⟨tPoint,q⟩] false [⟨tRat,oD (mvO p q)⟩]:=by
 cases hb:okPt p && okPt q
 ·rw [mvO_bad hb]
  refine fn_enter tabOK mixes Tryz.func73 rfl rfl _ Tryz.ntmps73 _ Tryz.results73 (by simp) fun hwf=>?_
  try simp (maxSteps:=9^9) only[go_sem]
  repeat refine And.intro (by first|omega|(constructor<;>omega)|kernel_rfl) ?_
  refine CallW.mk (arePoints2_fn p q) ?_
  try simp (maxSteps:=9^9) only[go_sem]
  try simp (maxSteps:=9^9) only[go_sem,hb]
 ·have hb':=hb
  simp only [okPt,Bool.and_eq_true] at hb'
  obtain ⟨⟨p1,p2⟩,⟨q1,q2⟩⟩:=hb'
  have c1:=ratSub_fn (rdO q.1) (rdO p.1) (okO_rdO _) (okO_rdO _)
  have c2:=ratSub_fn (rdO q.2) (rdO p.2) (okO_rdO _) (okO_rdO _)
  rw [okR_oD q1,okR_oD p1] at c1
  rw [okR_oD q2,okR_oD p2] at c2
  have c3:=size_fn (subO (rdO q.1) (rdO p.1))
  have c4:=size_fn (subO (rdO q.2) (rdO p.2))
  have c5:=ratMax_fn (sizeO (subO (rdO q.1) (rdO p.1))) (sizeO (subO (rdO q.2) (rdO p.2))) (okO_size (okO_sub _ _)) (okO_size (okO_sub _ _))
  unfold mvO
  refine fn_enter tabOK mixes Tryz.func73 rfl rfl _ Tryz.ntmps73 _ Tryz.results73 (by simp) fun hwf=>?_
  try simp (maxSteps:=9^9) only[go_sem]
  repeat refine And.intro (by first|omega|(constructor<;>omega)|kernel_rfl) ?_
  refine CallW.mk (arePoints2_fn p q) ?_
  try simp (maxSteps:=9^9) only[go_sem]
  try simp (maxSteps:=9^9) only[go_sem,hb]
  repeat refine And.intro (by first|omega|(constructor<;>omega)|kernel_rfl) ?_
  refine CallW.mk (c1) ?_
  try simp (maxSteps:=9^9) only[go_sem]
  repeat refine And.intro (by first|omega|(constructor<;>omega)|kernel_rfl) ?_
  refine CallW.mk (c3) ?_
  try simp (maxSteps:=9^9) only[go_sem]
  repeat refine And.intro (by first|omega|(constructor<;>omega)|kernel_rfl) ?_
  refine CallW.mk (c2) ?_
  try simp (maxSteps:=9^9) only[go_sem]
  repeat refine And.intro (by first|omega|(constructor<;>omega)|kernel_rfl) ?_
  refine CallW.mk (c4) ?_
  try simp (maxSteps:=9^9) only[go_sem]
  repeat refine And.intro (by first|omega|(constructor<;>omega)|kernel_rfl) ?_
  refine CallW.mk (c5) ?_
  try simp (maxSteps:=9^9) only[go_sem]
  all_goals repeat refine And.intro (by first|omega|(constructor<;>omega)|kernel_rfl) ?_
  all_goals first|kernel_rfl|omega|rfl
end Go.Proofs.YtaflkgjckmfkoaaGreat.DW

namespace Go.Proofs.YtaflkgjckmfkoaaGreat.DW
open Go.RowKit
end Go.Proofs.YtaflkgjckmfkoaaGreat.DW

namespace Go.Proofs.YtaflkgjckmfkoaaGreat.DW
open Go.RowKit
theorem natL_minInt:natL 9223372036854775808=[854775808,223372036,9]:=by
 rw [natL_pos (by decide),natL_pos (by decide),natL_pos (by decide),natL_zero]; rfl
theorem bigOf_fn (n:Int):Fn Tryz.prog 31 [⟨.int,n⟩] true [⟨tBig,bigD n⟩]:=by
 by_cases h0:0<=n
 ·have hn:¬ n < 0:=by omega
  have e:n.natAbs=n.toNat:=by omega
  refine fn_enter tabOK mixes Tryz.func31 rfl rfl _ Tryz.ntmps31 _ Tryz.results31 (by simp) fun hwf=>?_
  try simp (maxSteps:=9^9) only[go_sem,h0,hn]
  repeat refine And.intro (by first|omega|(constructor<;>omega)|kernel_rfl) ?_
  refine CallW.mk (implNatOf_fn n) ?_
  try simp (maxSteps:=9^9) only[go_sem]
  rw [e]
  all_goals repeat refine And.intro (by first|omega|(constructor<;>omega)|kernel_rfl) ?_
  all_goals first|kernel_rfl|omega|rfl
 ·by_cases h1:n=-9223372036854775808
  ·subst h1
   have e:natL 9223372036854775807=natL (9223372036854775807:Int).toNat:=rfl
   have ha:=natAdd_fn (9223372036854775807:Int).toNat (1:Int).toNat (Nat.le_trans (natL_len3 (n:=9223372036854775807) (by decide)) (by decide)) (Nat.le_trans (nl_small (by decide)) (by decide))
   refine fn_enter tabOK mixes Tryz.func31 rfl rfl _ Tryz.ntmps31 _ Tryz.results31 (by simp) fun hwf=>?_
   try simp (maxSteps:=9^9) only[go_sem]
   repeat refine And.intro (by first|omega|(constructor<;>omega)|kernel_rfl) ?_
   refine CallW.mk (implNatOf_fn 9223372036854775807) ?_
   try simp (maxSteps:=9^9) only[go_sem]
   repeat refine And.intro (by first|omega|(constructor<;>omega)|kernel_rfl) ?_
   refine CallW.mk (implNatOf_fn 1) ?_
   try simp (maxSteps:=9^9) only[go_sem]
   repeat refine And.intro (by first|omega|(constructor<;>omega)|kernel_rfl) ?_
   refine CallW.mk (ha) ?_
   try simp (maxSteps:=9^9) only[go_sem]
   all_goals repeat refine And.intro (by first|omega|(constructor<;>omega)|kernel_rfl) ?_
   all_goals first|kernel_rfl|omega|rfl
  ·have hn:n < 0:=by omega
   have e:n.natAbs=(-n).toNat:=by omega
   refine fn_enter tabOK mixes Tryz.func31 rfl rfl _ Tryz.ntmps31 _ Tryz.results31 (by simp) fun hwf=>?_
   have hI:I64 n:=hwf ⟨.int,n⟩ (by simp)
   have hI1:=hI.1
   have hI2:=hI.2
   try simp (maxSteps:=9^9) only[go_sem,h0,h1]
   repeat refine And.intro (by first|omega|(constructor<;>omega)|kernel_rfl) ?_
   refine CallW.mk (implNatOf_fn (-n)) ?_
   try simp (maxSteps:=9^9) only[go_sem]
   rw [e]
   simp [hn]
theorem BigIntOf_fn (n:Int):Fn Tryz.prog 105 [⟨.int,n⟩] true [⟨tBig,bigD n⟩]:=by
 by_cases h1:n=-9223372036854775808
 ·subst h1
  have hm:=l03Make_to (s:=true) (n:=9223372036854775808) (z:=-9223372036854775808) rfl (Nat.le_trans (natL_len3 (n:=9223372036854775808) (by decide)) (by decide))
  rw [natL_minInt] at hm
  refine fn_enter tabOK mixes Tryz.func105 rfl rfl _ Tryz.ntmps105 _ Tryz.results105 (by simp) fun hwf=>?_
  try simp (maxSteps:=9^9) only[go_sem]
  repeat refine And.intro (by first|omega|(constructor<;>omega)|kernel_rfl) ?_
  refine CallW.mk (hm) ?_
  try simp (maxSteps:=9^9) only[go_sem]
  all_goals repeat refine And.intro (by first|omega|(constructor<;>omega)|kernel_rfl) ?_
  all_goals first|kernel_rfl|omega|rfl
 ·refine fn_enter tabOK mixes Tryz.func105 rfl rfl _ Tryz.ntmps105 _ Tryz.results105 (by simp) fun hwf=>?_
  have hI:I64 n:=hwf ⟨.int,n⟩ (by simp)
  have hI1:=hI.1
  have hI2:=hI.2
  try simp (maxSteps:=9^9) only[go_sem]
  refine CondW_dec (fun h=>absurd h h1) (fun _=>?_)
  try simp (maxSteps:=9^9) only[go_sem]
  refine CondW_dec (fun hn=>?_) (fun hn=>?_)
  ·have hm:=l03Make_to (s:=true) (n:=(-n).toNat) (z:=n) (by unfold sgn; simp; omega) (Nat.le_trans (natL_len3 (n:=-n) (by omega)) (by decide))
   try simp (maxSteps:=9^9) only[go_sem]
   repeat refine And.intro (by first|omega|(constructor<;>omega)|kernel_rfl) ?_
   refine CallW.mk (specNatOf_fn (-n)) ?_
   try simp (maxSteps:=9^9) only[go_sem]
   repeat refine And.intro (by first|omega|(constructor<;>omega)|kernel_rfl) ?_
   refine CallW.mk (hm) ?_
   try simp (maxSteps:=9^9) only[go_sem]
   all_goals repeat refine And.intro (by first|omega|(constructor<;>omega)|kernel_rfl) ?_
   all_goals first|kernel_rfl|omega|rfl
  ·have hm:=l03Make_to (s:=false) (n:=n.toNat) (z:=n) (by unfold sgn; simp; omega) (Nat.le_trans (natL_len3 (n:=n) (by omega)) (by decide))
   try simp (maxSteps:=9^9) only[go_sem]
   repeat refine And.intro (by first|omega|(constructor<;>omega)|kernel_rfl) ?_
   refine CallW.mk (specNatOf_fn n) ?_
   try simp (maxSteps:=9^9) only[go_sem]
   repeat refine And.intro (by first|omega|(constructor<;>omega)|kernel_rfl) ?_
   refine CallW.mk (hm) ?_
   try simp (maxSteps:=9^9) only[go_sem]
   all_goals repeat refine And.intro (by first|omega|(constructor<;>omega)|kernel_rfl) ?_
   all_goals first|kernel_rfl|omega|rfl
def ratI (n:Int):DR:=(bigD n,[1])
theorem ratI_eq (n:Int):ratI n=ratD (n:Rat):=by
 rw [ratI,ratD,Rat.num_intCast,Rat.den_intCast,natL_1]
attribute [go_sem] ratI
theorem ratInt_fn (n:Int):Fn Tryz.prog 64 [⟨.int,n⟩] true [⟨tRat,ratI n⟩]:=by
 refine fn_enter tabOK mixes Tryz.func64 rfl rfl _ Tryz.ntmps64 _ Tryz.results64 (by simp) fun hwf=>?_
 try simp (maxSteps:=9^9) only[go_sem]
 repeat refine And.intro (by first|omega|(constructor<;>omega)|kernel_rfl) ?_
 refine CallW.mk (bigOf_fn n) ?_
 try simp (maxSteps:=9^9) only[go_sem]
 all_goals repeat refine And.intro (by first|omega|(constructor<;>omega)|kernel_rfl) ?_
 all_goals first|kernel_rfl|omega|rfl
theorem RatFromInt_fn (n:Int):Fn Tryz.prog 86 [⟨.int,n⟩] true [⟨tRat,ratI n⟩]:=by
 refine fn_enter tabOK mixes Tryz.func86 rfl rfl _ Tryz.ntmps86 _ Tryz.results86 (by simp) fun hwf=>?_
 try simp (maxSteps:=9^9) only[go_sem]
 repeat refine And.intro (by first|omega|(constructor<;>omega)|kernel_rfl) ?_
 refine CallW.mk (BigIntOf_fn n) ?_
 try simp (maxSteps:=9^9) only[go_sem]
 all_goals repeat refine And.intro (by first|omega|(constructor<;>omega)|kernel_rfl) ?_
 all_goals first|kernel_rfl|omega|rfl
theorem isSpeed_fn (n:Int):Fn Tryz.prog 32 [⟨.int,n⟩] false [⟨.bool,decide (1<=n/\n<=1000)⟩]:=by
 refine fn_enter tabOK mixes Tryz.func32 rfl rfl _ Tryz.ntmps32 _ Tryz.results32 (by simp) fun hwf=>?_
 try simp (maxSteps:=9^9) only[go_sem]
 repeat refine And.intro (by first|omega|(constructor<;>omega)|kernel_rfl) ?_
 refine CallW.mk (within_fn n 1 1000) ?_
 try simp (maxSteps:=9^9) only[go_sem]
theorem speedC_fn (n:Int):Fn Tryz.prog 63 [⟨.int,n⟩] false [⟨.bool,!decide (1<=n/\n<=1000)⟩]:=by
 refine fn_enter tabOK mixes Tryz.func63 rfl rfl _ Tryz.ntmps63 _ Tryz.results63 (by simp) fun hwf=>?_
 try simp (maxSteps:=9^9) only[go_sem]
 repeat refine And.intro (by first|omega|(constructor<;>omega)|kernel_rfl) ?_
 refine CallW.mk (isSpeed_fn n) ?_
 try simp (maxSteps:=9^9) only[go_sem]
end Go.Proofs.YtaflkgjckmfkoaaGreat.DW

namespace Go.Proofs.YtaflkgjckmfkoaaGreat.DW
open Go.RowKit
def limA (n:Int) (l:List Int) (i:Nat):Int:=if 0 < (i:Int)/\(i:Int) < n - 1 then min (ni l ((i:Int) - 1).toNat) (ni l i) else 0
def spdL (n:Int) (l:List Int) (k:Nat):List DR:=(List.range k).map fun i=>ratI (limA n l i * limA n l i)
def spdOk (n:Int) (l:List Int):Prop:=1<=n/\(l.length:Int)=n - 1/\∀ x ∈ l,1<=x/\x<=1000
noncomputable def spd (n:Int) (l:List Int):List DR:=@ite _ (spdOk n l) (Classical.propDecidable _) (spdL n l n.toNat) []
theorem spd_t {n:Int} {l:List Int} (h:spdOk n l):spd n l=spdL n l n.toNat:=if_pos h
theorem spd_f {n:Int} {l:List Int} (h:¬ spdOk n l):spd n l=[]:=if_neg h
theorem spdL_succ (n:Int) (l:List Int) (k:Nat):spdL n l (k+1)=spdL n l k++[ratI (limA n l k * limA n l k)]:=by
 simp [spdL,List.range_succ]
theorem spdL_len (n:Int) (l:List Int) (k:Nat):(spdL n l k).length=k:=by simp [spdL]
theorem limA_le {n:Int} {l:List Int} (h:spdOk n l) (i:Nat):0<=limA n l i/\limA n l i<=1000:=by
 unfold limA
 split
 ·rename_i hc
  have h1:((i:Int) - 1).toNat < l.length:=by have:=h.2.1; omega
  have h2:i < l.length:=by have:=h.2.1; omega
  have e1:=h.2.2 _ (List.getElem_mem h1)
  have e2:=h.2.2 _ (List.getElem_mem h2)
  rw [ni_lt h1,ni_lt h2]
  omega
 ·omega
theorem sq_le {k:Int} (h:0<=k/\k<=1000):0<=k * k/\k * k<=1000000 :=
 ⟨Int.mul_nonneg h.1 h.1,by have:=Int.mul_le_mul h.2 h.2 h.1 (by decide:(0:Int)<=1000); omega⟩
theorem implSpeedLimits_fn (n:Int) (l:List Int) (hl:l.length<=16777216):Fn Tryz.prog 27 [⟨.int,n⟩,⟨tInts,l⟩] true [⟨.slice tRat,spd n l⟩]:=by
 by_cases h1:n < 1
 ·rw [spd_f fun h=>by have:=h.1; omega]
  refine fn_enter tabOK mixes Tryz.func27 rfl rfl _ Tryz.ntmps27 _ Tryz.results27 (by simp) fun hwf=>?_
  try simp (maxSteps:=9^9) only[go_sem,h1]
 by_cases h2:(l.length:Int)=n - 1
 rotate_left
 ·rw [spd_f fun h=>h2 h.2.1]
  refine fn_enter tabOK mixes Tryz.func27 rfl rfl _ Tryz.ntmps27 _ Tryz.results27 (by simp) fun hwf=>?_
  have hI:I64 n:=hwf ⟨.int,n⟩ (by simp)
  have hI2:=hI.2
  try simp (maxSteps:=9^9) only[go_sem,h1,h2]
  all_goals repeat refine And.intro (by first|omega|(constructor<;>omega)|kernel_rfl) ?_
  all_goals first|kernel_rfl|omega|rfl
 have hi:I64 (n - 1):=by constructor<;>omega
 cases h3:l.any (fun x=>!decide (1<=x/\x<=1000))
 rotate_left
 ·rw [spd_f fun h=>by
   obtain ⟨x,hx,hb⟩:=List.any_eq_true.1 h3
   have:=h.2.2 x hx
   simp [this.1,this.2] at hb]
  refine fn_enter tabOK mixes Tryz.func27 rfl rfl _ Tryz.ntmps27 _ Tryz.results27 (by simp) fun hwf=>?_
  try simp (maxSteps:=9^9) only[go_sem,h1,h2]
  repeat refine And.intro (by first|omega|(constructor<;>omega)|kernel_rfl) ?_
  refine CallW.mk (containsFunc_int_fn _ _ speedC_fn l) ?_
  try simp (maxSteps:=9^9) only[go_sem]
  try simp (maxSteps:=9^9) only[go_sem,h3]
 have hok:spdOk n l:=⟨by omega,h2,fun x hx=>by
  rw [List.any_eq_false] at h3
  have:=h3 x hx
  simpa using this⟩
 rw [spd_t hok]
 refine fn_enter tabOK mixes Tryz.func27 rfl rfl _ Tryz.ntmps27 _ Tryz.results27 (by simp) fun hwf=>?_
 try simp (maxSteps:=9^9) only[go_sem,h1,h2]
 repeat refine And.intro (by first|omega|(constructor<;>omega)|kernel_rfl) ?_
 refine CallW.mk (containsFunc_int_fn _ _ speedC_fn l) ?_
 try simp (maxSteps:=9^9) only[go_sem]
 try simp (maxSteps:=9^9) only[go_sem,h3]
 refine LoopG.intro _ _ _ (fun i:Nat=>⟨[(0,.sc (.int .i64 n)),(1,.sl .int l),(5,.row 0 0),(22,.sc (.int .i64 n)),(23,.sc (.int .i64 i))],[(0,.row 33 tRat 0 true (spdL n l i))]⟩) (fun i=>(i:Int)<=n) (fun i=>(n - i).toNat) 0 ?_ (by omega) ?_
 ·refine Wk.mk [] ?_
  try simp (maxSteps:=9^9) only[go_sem]
  try (and_intros<;>first|rfl|omega|exact ⟨_,rfl⟩)
  all_goals (exact ⟨rfl,rfl⟩)
 ·intro i hin
  have hk:=limA_le hok i
  have hsq:=sq_le hk
  try simp (maxSteps:=9^9) only[go_sem]
  refine CondW_dec (fun hA=>?_) (fun hA=>?_)
  ·have hpath:(0 < (i:Int)/\(i:Int) < n - 1/\limA n l i=min (ni l ((i:Int) - 1).toNat) (ni l i))\/(¬ 0 < (i:Int)/\limA n l i=0)\/(0 < (i:Int)/\¬ (i:Int) < n - 1/\limA n l i=0):=by
    unfold limA
    by_cases g1:0 < (i:Int)
    ·by_cases g2:(i:Int) < n - 1
     ·exact .inl ⟨g1,g2,if_pos ⟨g1,g2⟩⟩
     ·exact .inr (.inr ⟨g1,g2,if_neg fun h=>g2 h.2⟩)
    ·exact .inr (.inl ⟨g1,if_neg fun h=>g1 h.1⟩)
   rcases hpath with ⟨hB,hC,hlim⟩|⟨hB,hlim⟩|⟨hB,hC,hlim⟩
   ·try simp (maxSteps:=9^9) only[go_sem,hA]
    repeat refine And.intro (by first|omega|(constructor<;>omega)|kernel_rfl) ?_
    try simp (maxSteps:=9^9) only[go_sem,hB,hC]
    repeat refine And.intro (by first|omega|(constructor<;>omega)|kernel_rfl) ?_
    rw [<-hlim]
    repeat refine And.intro (by first|omega|(constructor<;>omega)|kernel_rfl) ?_
    refine CallW.mk (ratInt_fn (limA n l i * limA n l i)) ?_
    try simp (maxSteps:=9^9) only[go_sem]
    try simp (maxSteps:=9^9) only[go_sem,spdL_len]
    repeat refine And.intro (by first|omega|(constructor<;>omega)|kernel_rfl) ?_
    refine LoopK.mk (i+1) ?_ (by omega) (by omega)
    refine Wk.mk [] ?_
    try simp (maxSteps:=9^9) only[go_sem]
    try (and_intros<;>first|rfl|omega|exact ⟨_,rfl⟩)
    all_goals (rw [spdL_succ]; exact ⟨by omega,rfl⟩)
   ·try simp (maxSteps:=9^9) only[go_sem,hA]
    repeat refine And.intro (by first|omega|(constructor<;>omega)|kernel_rfl) ?_
    try simp (maxSteps:=9^9) only[go_sem,hB]
    repeat refine And.intro (by first|omega|(constructor<;>omega)|kernel_rfl) ?_
    refine CallW.mk (ratInt_fn (0 * 0)) ?_
    try simp (maxSteps:=9^9) only[go_sem]
    try simp (maxSteps:=9^9) only[go_sem,spdL_len]
    repeat refine And.intro (by first|omega|(constructor<;>omega)|kernel_rfl) ?_
    refine LoopK.mk (i+1) ?_ (by omega) (by omega)
    refine Wk.mk [] ?_
    try simp (maxSteps:=9^9) only[go_sem]
    try (and_intros<;>first|rfl|omega|exact ⟨_,rfl⟩)
    all_goals (rw [spdL_succ,hlim]; exact ⟨by omega,rfl⟩)
   ·try simp (maxSteps:=9^9) only[go_sem,hA]
    repeat refine And.intro (by first|omega|(constructor<;>omega)|kernel_rfl) ?_
    try simp (maxSteps:=9^9) only[go_sem,hB,hC]
    repeat refine And.intro (by first|omega|(constructor<;>omega)|kernel_rfl) ?_
    refine CallW.mk (ratInt_fn (0 * 0)) ?_
    try simp (maxSteps:=9^9) only[go_sem]
    try simp (maxSteps:=9^9) only[go_sem,spdL_len]
    repeat refine And.intro (by first|omega|(constructor<;>omega)|kernel_rfl) ?_
    refine LoopK.mk (i+1) ?_ (by omega) (by omega)
    refine Wk.mk [] ?_
    try simp (maxSteps:=9^9) only[go_sem]
    try (and_intros<;>first|rfl|omega|exact ⟨_,rfl⟩)
    all_goals (rw [spdL_succ,hlim]; exact ⟨by omega,rfl⟩)
  ·try simp (maxSteps:=9^9) only[go_sem]
   rw [show n.toNat=i by omega]
end Go.Proofs.YtaflkgjckmfkoaaGreat.DW

namespace Go.Proofs.YtaflkgjckmfkoaaGreat
open Go.RowKit in
theorem Has.of {α:Type} {A:Rp α} {w:World} {cs:List Value} {a:α} {fp:List Nat} (h:A.rep w cs a fp):Has A w cs a:=⟨fp,h⟩
end Go.Proofs.YtaflkgjckmfkoaaGreat

namespace Go.Proofs.YtaflkgjckmfkoaaGreat.DW
open Go.RowKit
theorem okR_len {r:DR} (h:okR r=true):r.1.2.length<=24/\r.2.length<=24:=by
 obtain ⟨p,hp,rfl,_⟩:=okR_t h
 exact hp
end Go.Proofs.YtaflkgjckmfkoaaGreat.DW

namespace Go.Proofs.YtaflkgjckmfkoaaGreat.DW
open Go.RowKit
theorem addO_none_l (y:Option Rat):addO none y=none:=rfl
theorem addO_none_r (x:Option Rat):addO x none=none:=by cases x<;>rfl
theorem specRatAdd_fn (r s:DR):Fn Tryz.prog 56 [⟨tRat,r⟩,⟨tRat,s⟩] true [⟨tRat,oD (addO (rdO r) (rdO s))⟩]:=by
 cases hr:okR r
 ·rw [okR_f hr,addO_none_l]
  refine fn_enter tabOK mixes Tryz.func56 rfl rfl _ Tryz.ntmps56 _ Tryz.results56 (by simp) fun hwf=>?_
  try simp (maxSteps:=9^9) only[go_sem]
  repeat refine And.intro (by first|omega|(constructor<;>omega)|kernel_rfl) ?_
  refine CallW.mk (specRatOk_fn r) ?_
  try simp (maxSteps:=9^9) only[go_sem]
  try simp (maxSteps:=9^9) only[go_sem,hr]
 ·cases hs:okR s
  ·rw [okR_f hs,addO_none_r]
   refine fn_enter tabOK mixes Tryz.func56 rfl rfl _ Tryz.ntmps56 _ Tryz.results56 (by simp) fun hwf=>?_
   try simp (maxSteps:=9^9) only[go_sem]
   repeat refine And.intro (by first|omega|(constructor<;>omega)|kernel_rfl) ?_
   refine CallW.mk (specRatOk_fn r) ?_
   try simp (maxSteps:=9^9) only[go_sem]
   try simp (maxSteps:=9^9) only[go_sem,hr]
   repeat refine And.intro (by first|omega|(constructor<;>omega)|kernel_rfl) ?_
   refine CallW.mk (specRatOk_fn s) ?_
   try simp (maxSteps:=9^9) only[go_sem]
   try simp (maxSteps:=9^9) only[go_sem,hs]
  ·obtain ⟨p,hp,rfl,e1⟩:=okR_t hr
   obtain ⟨q,hq,rfl,e2⟩:=okR_t hs
   rw [e1,e2]
   have hr':okR ((decide (p.num < 0),natL p.num.natAbs),natL p.den)=true:=hr
   have hs':okR ((decide (q.num < 0),natL q.num.natAbs),natL q.den)=true:=hs
   have e:addO (some p) (some q)=capR (p+q):=rfl
   rw [e]
   refine fn_enter tabOK mixes Tryz.func56 rfl rfl _ Tryz.ntmps56 _ Tryz.results56 (by simp) fun hwf=>?_
   try simp (maxSteps:=9^9) only[go_sem]
   repeat refine And.intro (by first|omega|(constructor<;>omega)|kernel_rfl) ?_
   refine CallW.mk (specRatOk_fn (ratD p)) ?_
   try simp (maxSteps:=9^9) only[go_sem]
   try simp (maxSteps:=9^9) only[go_sem,hr']
   repeat refine And.intro (by first|omega|(constructor<;>omega)|kernel_rfl) ?_
   refine CallW.mk (specRatOk_fn (ratD q)) ?_
   try simp (maxSteps:=9^9) only[go_sem]
   try simp (maxSteps:=9^9) only[go_sem,hs']
   repeat refine And.intro (by first|omega|(constructor<;>omega)|kernel_rfl) ?_
   refine CallW.mk (l04Add_fn p q hp hq) ?_
   try simp (maxSteps:=9^9) only[go_sem]
   all_goals repeat refine And.intro (by first|omega|(constructor<;>omega)|kernel_rfl) ?_
   all_goals first|kernel_rfl|omega|rfl
end Go.Proofs.YtaflkgjckmfkoaaGreat.DW

namespace Go.Proofs.YtaflkgjckmfkoaaGreat.DW
open Go.RowKit
noncomputable def foldM (b:Option Rat) (l:List DR):Option Rat:=l.foldl (fun b r=>maxO b (rdO r)) b
noncomputable def peakO:List DR->Option Rat
 | []=>none
 | r :: l=>foldM (rdO r) (r :: l)
theorem foldM_snoc (b:Option Rat) (l:List DR) (r:DR):foldM b (l++[r])=maxO (foldM b l) (rdO r):=by
 simp [foldM,List.foldl_append]
theorem foldM_take {b:Option Rat} {l:List DR} {i:Nat} (h:i < l.length):foldM b (l.take (i+1))=maxO (foldM b (l.take i)) (rdO (nth (t:=tRat) l i)):=by
 rw [List.take_succ_eq_append_getElem h,foldM_snoc,nth_lt h]
theorem maxO_none_l (y:Option Rat):maxO none y=none:=rfl
theorem maxO_none_r (x:Option Rat):maxO x none=none:=by cases x<;>rfl
theorem foldM_none (l:List DR):foldM none l=none:=by
 induction l with
 | nil=>rfl
 | cons r l ih=>show foldM (maxO none (rdO r)) l=none; rw [maxO_none_l]; exact ih
theorem foldM_bad {b:Option Rat} {l:List DR} (h:l.any (fun r=>!okR r)=true):foldM b l=none:=by
 induction l generalizing b with
 | nil=>cases h
 | cons r l ih =>
  rw [List.any_cons,Bool.or_eq_true] at h
  show foldM (maxO b (rdO r)) l=none
  rcases h with h|h
  ·rw [okR_f (by simpa using h),maxO_none_r]; exact foldM_none l
  ·exact ih h
theorem okO_fold {b:Option Rat} (l:List DR) (h:okO b):okO (foldM b l):=by
 induction l generalizing b with
 | nil=>exact h
 | cons r l ih=>exact ih (okO_max h (okO_rdO r))
theorem maxO_self (x:Option Rat):maxO x x=x:=by
 cases x with
 | none=>rfl
 | some p=>show (if 0<=cmpQ p p then some p else some p)=some p; split<;>rfl
theorem cmpQ_swap {p q:Rat}:0 < cmpQ q p ↔ ¬ 0<=cmpQ p q:=by
 rw [cmpQ_eq,cmpQ_eq]
 unfold cmpZ
 split<;>split<;>(try split)<;>(try split)<;>omega
theorem maxFunc_fn (r0:DR) (l:List DR) (hall:∀ r ∈ r0 :: l,okR r=true):Fn Tryz.prog 43 [⟨.slice tRat,r0 :: l⟩,⟨.cst (.fn 36),()⟩] false [⟨tRat,oD (foldM (rdO r0) (r0 :: l))⟩]:=by
 have hlen:¬ ((r0 :: l).length:Int) < 1:=by simp only [List.length_cons]; omega
 have hlen2:(0:Int) < (r0 :: l).length:=by omega
 have hn0:nth (t:=tRat) (r0 :: l) 0=r0:=rfl
 have hr0:=okR_oD (hall r0 List.mem_cons_self)
 have h1:foldM (rdO r0) ((r0 :: l).take 1)=rdO r0:=maxO_self _
 generalize hw:r0 :: l=w at *
 refine fn_enter tabOK mixes Tryz.func43 rfl rfl _ Tryz.ntmps43 _ Tryz.results43 (by simp) fun hwf=>?_
 have hl:w.length<=9223372036854775807:=(hwf ⟨.slice tRat,w⟩ (by simp)).1
 try simp (maxSteps:=9^9) only[go_sem,hlen]
 repeat refine And.intro (by first|omega|(constructor<;>omega)|kernel_rfl) ?_
 rw [hn0]
 refine LoopG.intro _ _ _ (fun j:Nat=>⟨[(0,.sl tRat w),(1,.sc (.func (.func 36) #[] #[])),(4,.ptr 0 0),(5,.ptr 1 0),(6,.sc (.int .i64 j))],[(1,.box [.sc (.bool (oD (foldM (rdO r0) (w.take j))).1.1),.sl .int (oD (foldM (rdO r0) (w.take j))).1.2,.sl .int (oD (foldM (rdO r0) (w.take j))).2]),(0,.box [.sc (.bool false),.sc (.slice none 0 0),.sc (.slice none 0 0)])]⟩) (fun j=>1<=j/\j<=w.length) (fun j=>w.length - j) 1 ?_ ⟨Nat.le_refl _,by omega⟩ ?_
 ·refine Wk.mk [] ?_
  try simp (maxSteps:=9^9) only[go_sem]
  try (and_intros<;>first|rfl|omega|exact ⟨_,rfl⟩)
  all_goals (rw [h1,hr0]; (and_intros<;>first|rfl|omega|exact ⟨_,rfl⟩))
 ·rintro j ⟨g1,g2⟩
  try simp (maxSteps:=9^9) only[go_sem]
  refine CondW_dec (fun hA=>?_) (fun hA=>?_)
  ·have hok:=okO_fold (w.take j) (okO_rdO r0)
   have hjr:okR (nth (t:=tRat) w j)=true:=by rw [nth_lt (by omega)]; exact hall _ (List.getElem_mem (by omega))
   have ej:=okR_oD hjr
   have hft:=foldM_take (b:=rdO r0) (l:=w) (i:=j) (by omega)
   have hc:=ratCmp_fn (rdO (nth (t:=tRat) w j)) (foldM (rdO r0) (w.take j)) (okO_rdO _) hok
   rw [ej] at hc
   try simp (maxSteps:=9^9) only[go_sem]
   repeat refine And.intro (by first|omega|(constructor<;>omega)|kernel_rfl) ?_
   refine CallW.mk (hc) ?_
   try simp (maxSteps:=9^9) only[go_sem]
   repeat refine And.intro (by first|omega|(constructor<;>omega)|kernel_rfl) ?_
   by_cases hB:0 < cmpO (rdO (nth (t:=tRat) w j)) (foldM (rdO r0) (w.take j))
   ·have hm:foldM (rdO r0) (w.take (j+1))=rdO (nth (t:=tRat) w j):=by
     rw [hft]
     cases hx:foldM (rdO r0) (w.take j) with
     | none=>rw [hx] at hB; cases hy:rdO (nth (t:=tRat) w j)<;>rw [hy] at hB<;>exact absurd hB (Int.lt_irrefl 0)
     | some p =>
      cases hy:rdO (nth (t:=tRat) w j) with
      | none=>rw [okR,hy] at hjr; cases hjr
      | some q=>rw [hx,hy] at hB; exact if_neg (cmpQ_swap.1 hB)
    try simp (maxSteps:=9^9) only[go_sem,hB]
    repeat refine And.intro (by first|omega|(constructor<;>omega)|kernel_rfl) ?_
    refine LoopK.mk (j+1) ?_ ⟨by omega,by omega⟩ (by omega)
    refine Wk.mk [] ?_
    try simp (maxSteps:=9^9) only[go_sem]
    try (and_intros<;>first|rfl|omega|exact ⟨_,rfl⟩)
    all_goals (rw [hm,ej]; (and_intros<;>first|rfl|omega|exact ⟨_,rfl⟩))
   ·have hm:foldM (rdO r0) (w.take (j+1))=foldM (rdO r0) (w.take j):=by
     rw [hft]
     cases hx:foldM (rdO r0) (w.take j) with
     | none=>rfl
     | some p =>
      cases hy:rdO (nth (t:=tRat) w j) with
      | none=>rw [okR,hy] at hjr; cases hjr
      | some q =>
       rw [hx,hy] at hB
       exact if_pos (Classical.byContradiction fun h=>hB (cmpQ_swap.2 h))
    try simp (maxSteps:=9^9) only[go_sem,hB]
    repeat refine And.intro (by first|omega|(constructor<;>omega)|kernel_rfl) ?_
    refine LoopK.mk (j+1) ?_ ⟨by omega,by omega⟩ (by omega)
    refine Wk.mk [] ?_
    try simp (maxSteps:=9^9) only[go_sem]
    try (and_intros<;>first|rfl|omega|exact ⟨_,rfl⟩)
    all_goals (rw [hm]; (and_intros<;>first|rfl|omega|exact ⟨_,rfl⟩))
  ·have hj:j=w.length:=by omega
   try simp (maxSteps:=9^9) only[go_sem]
   rw [hj,List.take_length]
   and_intros<;>first|rfl|omega|exact ⟨_,rfl⟩
theorem implPeak_fn (w:List DR):Fn Tryz.prog 15 [⟨.slice tRat,w⟩] true [⟨tRat,oD (peakO w)⟩]:=by
 by_cases hlen:(w.length:Int)=0
 ·have:w=[]:=List.eq_nil_of_length_eq_zero (by omega)
  have hp:peakO w=none:=by rw [this]; rfl
  rw [hp]
  refine fn_enter tabOK mixes Tryz.func15 rfl rfl _ Tryz.ntmps15 _ Tryz.results15 (by simp) fun hwf=>?_
  try simp (maxSteps:=9^9) only[go_sem,hlen]
 cases hbad:w.any (fun r=>!okR r)
 ·cases w with
  | nil=>exact absurd rfl hlen
  | cons r0 l =>
   have hall:∀ r ∈ r0 :: l,okR r=true:=fun r hr=>by
    rw [List.any_eq_false] at hbad
    have:=hbad r hr
    simpa using this
   have hm:=maxFunc_fn r0 l hall
   have hok:=okO_fold (r0 :: l) (okO_rdO r0)
   have ho:=ownO_fn _ hok
   have hpk:peakO (r0 :: l)=foldM (rdO r0) (r0 :: l):=rfl
   rw [hpk]
   generalize hw:r0 :: l=w at *
   refine fn_enter tabOK mixes Tryz.func15 rfl rfl _ Tryz.ntmps15 _ Tryz.results15 (by simp) fun hwf=>?_
   try simp (maxSteps:=9^9) only[go_sem,hlen]
   repeat refine And.intro (by first|omega|(constructor<;>omega)|kernel_rfl) ?_
   refine CallW.mk (allRats_fn w) ?_
   try simp (maxSteps:=9^9) only[go_sem]
   try simp (maxSteps:=9^9) only[go_sem,hbad]
   repeat refine And.intro (by first|omega|(constructor<;>omega)|kernel_rfl) ?_
   refine CallW.mk (hm) ?_
   try simp (maxSteps:=9^9) only[go_sem]
   repeat refine And.intro (by first|omega|(constructor<;>omega)|kernel_rfl) ?_
   refine CallW.mk (ho) ?_
   try simp (maxSteps:=9^9) only[go_sem]
   all_goals repeat refine And.intro (by first|omega|(constructor<;>omega)|kernel_rfl) ?_
   all_goals first|kernel_rfl|omega|rfl
 ·have hp:peakO w=none:=by
   cases w with
   | nil=>rfl
   | cons r0 l=>exact foldM_bad hbad
  rw [hp]
  refine fn_enter tabOK mixes Tryz.func15 rfl rfl _ Tryz.ntmps15 _ Tryz.results15 (by simp) fun hwf=>?_
  try simp (maxSteps:=9^9) only[go_sem,hlen]
  repeat refine And.intro (by first|omega|(constructor<;>omega)|kernel_rfl) ?_
  refine CallW.mk (allRats_fn w) ?_
  try simp (maxSteps:=9^9) only[go_sem]
  try simp (maxSteps:=9^9) only[go_sem,hbad]
end Go.Proofs.YtaflkgjckmfkoaaGreat.DW

namespace Go.Proofs.YtaflkgjckmfkoaaGreat.DW
open Go.RowKit
theorem ratMul_fn (x y:Option Rat) (hx:okO x) (hy:okO y):Fn Tryz.prog 29 [⟨tRat,oD x⟩,⟨tRat,oD y⟩] true [⟨tRat,oD (mulO x y)⟩]:=by
 cases x with
 | none =>
  refine fn_enter tabOK mixes Tryz.func29 rfl rfl _ Tryz.ntmps29 _ Tryz.results29 (by simp) fun hwf=>?_
  try simp (maxSteps:=9^9) only[go_sem]
  repeat refine And.intro (by first|omega|(constructor<;>omega)|kernel_rfl) ?_
  refine CallW.mk (isGood_n) ?_
  try simp (maxSteps:=9^9) only[go_sem]
  try simp (maxSteps:=9^9) only[go_sem,mulO]
 | some p =>
  cases y with
  | none =>
   refine fn_enter tabOK mixes Tryz.func29 rfl rfl _ Tryz.ntmps29 _ Tryz.results29 (by simp) fun hwf=>?_
   try simp (maxSteps:=9^9) only[go_sem]
   repeat refine And.intro (by first|omega|(constructor<;>omega)|kernel_rfl) ?_
   refine CallW.mk (isGood_s p) ?_
   try simp (maxSteps:=9^9) only[go_sem]
   repeat refine And.intro (by first|omega|(constructor<;>omega)|kernel_rfl) ?_
   refine CallW.mk (isGood_n) ?_
   try simp (maxSteps:=9^9) only[go_sem]
   try simp (maxSteps:=9^9) only[go_sem,mulO]
  | some q =>
   obtain ⟨p1,p2⟩:=hx p rfl
   obtain ⟨q1,q2⟩:=hy q rfl
   have b1:=nl_mulI p.num q.num
   have b4:=nl_mul p.den q.den
   have hm:=ratMake_end (p.num * q.num) (p.den * q.den) (den_mul_ne p q) (by omega) (by omega)
   rw [<-mul_mk] at hm
   have e:mulO (some p) (some q)=capR (p * q):=rfl
   rw [e]
   refine fn_enter tabOK mixes Tryz.func29 rfl rfl _ Tryz.ntmps29 _ Tryz.results29 (by simp) fun hwf=>?_
   try simp (maxSteps:=9^9) only[go_sem]
   repeat refine And.intro (by first|omega|(constructor<;>omega)|kernel_rfl) ?_
   refine CallW.mk (isGood_s p) ?_
   try simp (maxSteps:=9^9) only[go_sem]
   repeat refine And.intro (by first|omega|(constructor<;>omega)|kernel_rfl) ?_
   refine CallW.mk (isGood_s q) ?_
   try simp (maxSteps:=9^9) only[go_sem]
   repeat refine And.intro (by first|omega|(constructor<;>omega)|kernel_rfl) ?_
   refine CallW.mk (bigMul_fn p.num q.num (by omega) (by omega)) ?_
   try simp (maxSteps:=9^9) only[go_sem]
   repeat refine And.intro (by first|omega|(constructor<;>omega)|kernel_rfl) ?_
   refine CallW.mk (natMul_fn p.den q.den (by omega) (by omega)) ?_
   try simp (maxSteps:=9^9) only[go_sem]
   repeat refine And.intro (by first|omega|(constructor<;>omega)|kernel_rfl) ?_
   refine CallW.mk (hm) ?_
   try simp (maxSteps:=9^9) only[go_sem]
   all_goals repeat refine And.intro (by first|omega|(constructor<;>omega)|kernel_rfl) ?_
   all_goals first|kernel_rfl|omega|rfl
theorem ratMin_fn (x y:Option Rat) (hx:okO x) (hy:okO y):Fn Tryz.prog 58 [⟨tRat,oD x⟩,⟨tRat,oD y⟩] false [⟨tRat,oD (minO x y)⟩]:=by
 cases x with
 | none =>
  refine fn_enter tabOK mixes Tryz.func58 rfl rfl _ Tryz.ntmps58 _ Tryz.results58 (by simp) fun hwf=>?_
  try simp (maxSteps:=9^9) only[go_sem]
  repeat refine And.intro (by first|omega|(constructor<;>omega)|kernel_rfl) ?_
  refine CallW.mk (isGood_n) ?_
  try simp (maxSteps:=9^9) only[go_sem]
  try simp (maxSteps:=9^9) only[go_sem,minO]
 | some p =>
  cases y with
  | none =>
   refine fn_enter tabOK mixes Tryz.func58 rfl rfl _ Tryz.ntmps58 _ Tryz.results58 (by simp) fun hwf=>?_
   try simp (maxSteps:=9^9) only[go_sem]
   repeat refine And.intro (by first|omega|(constructor<;>omega)|kernel_rfl) ?_
   refine CallW.mk (isGood_s p) ?_
   try simp (maxSteps:=9^9) only[go_sem]
   repeat refine And.intro (by first|omega|(constructor<;>omega)|kernel_rfl) ?_
   refine CallW.mk (isGood_n) ?_
   try simp (maxSteps:=9^9) only[go_sem]
   try simp (maxSteps:=9^9) only[go_sem,minO]
  | some q =>
   have hc:=ratCmp_fn (some p) (some q) hx hy
   have e:cmpO (some p) (some q)=cmpQ p q:=rfl
   rw [e] at hc
   by_cases h:cmpQ p q<=0
   ·have e2:minO (some p) (some q)=some p:=if_pos h
    rw [e2]
    refine fn_enter tabOK mixes Tryz.func58 rfl rfl _ Tryz.ntmps58 _ Tryz.results58 (by simp) fun hwf=>?_
    try simp (maxSteps:=9^9) only[go_sem]
    repeat refine And.intro (by first|omega|(constructor<;>omega)|kernel_rfl) ?_
    refine CallW.mk (isGood_s p) ?_
    try simp (maxSteps:=9^9) only[go_sem]
    repeat refine And.intro (by first|omega|(constructor<;>omega)|kernel_rfl) ?_
    refine CallW.mk (isGood_s q) ?_
    try simp (maxSteps:=9^9) only[go_sem]
    repeat refine And.intro (by first|omega|(constructor<;>omega)|kernel_rfl) ?_
    refine CallW.mk (hc) ?_
    try simp (maxSteps:=9^9) only[go_sem]
    try simp (maxSteps:=9^9) only[go_sem,h]
   ·have e2:minO (some p) (some q)=some q:=if_neg h
    rw [e2]
    refine fn_enter tabOK mixes Tryz.func58 rfl rfl _ Tryz.ntmps58 _ Tryz.results58 (by simp) fun hwf=>?_
    try simp (maxSteps:=9^9) only[go_sem]
    repeat refine And.intro (by first|omega|(constructor<;>omega)|kernel_rfl) ?_
    refine CallW.mk (isGood_s p) ?_
    try simp (maxSteps:=9^9) only[go_sem]
    repeat refine And.intro (by first|omega|(constructor<;>omega)|kernel_rfl) ?_
    refine CallW.mk (isGood_s q) ?_
    try simp (maxSteps:=9^9) only[go_sem]
    repeat refine And.intro (by first|omega|(constructor<;>omega)|kernel_rfl) ?_
    refine CallW.mk (hc) ?_
    try simp (maxSteps:=9^9) only[go_sem]
    try simp (maxSteps:=9^9) only[go_sem,h]
theorem ownRats_fn (l:List DR) (hb:l.length<=1000000000) (h:∀ r ∈ l,r.1.2.length<=16777216/\r.2.length<=16777216):Fn Tryz.prog 61 [⟨.slice tRat,l⟩] true [⟨.slice tRat,l⟩]:=by
 refine fn_enter tabOK mixes Tryz.func61 rfl rfl _ Tryz.ntmps61 _ Tryz.results61 (by simp) fun hwf=>?_
 have hl:l.length<=9223372036854775807:=(hwf ⟨.slice tRat,l⟩ (by simp)).1
 try simp (maxSteps:=9^9) only[go_sem]
 refine LoopG.intro _ _ _ (fun i:Nat=>⟨[(3,.row 0 0),(7,.sl tRat l),(8,.sc (.int .i64 l.length)),(9,.sc (.int .i64 i))],[(0,.row 33 tRat 0 true (l.take i))]⟩) (fun i=>i<=l.length) (fun i=>l.length - i) 0 ?_ (Nat.zero_le _) ?_
 ·refine Wk.mk [] ?_
  try simp (maxSteps:=9^9) only[go_sem]
  try (and_intros<;>first|rfl|omega|exact ⟨_,rfl⟩)
  all_goals (exact ⟨rfl,rfl⟩)
 ·rintro i hi
  try simp (maxSteps:=9^9) only[go_sem]
  refine CondW_dec (fun hA=>?_) (fun hA=>?_)
  ·have hlt:i < l.length:=by omega
   have ht:(List.take i l).length=i:=by rw [List.length_take]; omega
   have hm:=h (nth (t:=tRat) l i) (by rw [nth_lt hlt]; exact List.getElem_mem hlt)
   have c1:=ownRat_fn (nth (t:=tRat) l i) hm.1 hm.2
   have e:l.take (i+1)=l.take i++[nth (t:=tRat) l i]:=by rw [nth_lt hlt]; exact List.take_succ_eq_append_getElem hlt
   try simp (maxSteps:=9^9) only[go_sem]
   repeat refine And.intro (by first|omega|(constructor<;>omega)|kernel_rfl) ?_
   refine CallW.mk (c1) ?_
   try simp (maxSteps:=9^9) only[go_sem]
   try simp (maxSteps:=9^9) only[go_sem,ht]
   repeat refine And.intro (by first|omega|(constructor<;>omega)|kernel_rfl) ?_
   refine LoopK.mk (i+1) ?_ (by omega) (by omega)
   refine Wk.mk [] ?_
   try simp (maxSteps:=9^9) only[go_sem]
   try (and_intros<;>first|rfl|omega|exact ⟨_,rfl⟩)
   all_goals (rw [e]; exact ⟨by omega,rfl⟩)
  ·rw [List.take_of_length_le (by omega)]
   try simp (maxSteps:=9^9) only[go_sem]
end Go.Proofs.YtaflkgjckmfkoaaGreat.DW

namespace Go.Proofs.YtaflkgjckmfkoaaGreat.DW
open Go.RowKit
theorem implSpeedLimitsG (n:Int) (l:List Int) (hl:l.length<=16777216) (hok:spdOk n l):FnG Tryz.prog 27 [⟨.int,n⟩,⟨tInts,l⟩] 33 tRat (spdL n l n.toNat):=by
 have h1:¬ n < 1:=by have:=hok.1; omega
 have h2:=hok.2.1
 have h3:l.any (fun x=>!decide (1<=x/\x<=1000))=false:=by
  rw [List.any_eq_false]
  intro x hx
  have:=hok.2.2 x hx
  simp [this.1,this.2]
 refine fnG_enter tabOK mixes Tryz.func27 rfl rfl _ Tryz.ntmps27 _ Tryz.results27 (by simp) fun hwf=>?_
 have hll:l.length<=9223372036854775807:=(hwf ⟨tInts,l⟩ (by simp)).1
 have hI:I64 n:=hwf ⟨.int,n⟩ (by simp)
 have hI2:=hI.2
 have hi:I64 (n - 1):=by constructor<;>omega
 try simp (maxSteps:=9^9) only[go_sem,h1,h2]
 repeat refine And.intro (by first|omega|(constructor<;>omega)|kernel_rfl) ?_
 refine CallW.mk (containsFunc_int_fn _ _ speedC_fn l) ?_
 try simp (maxSteps:=9^9) only[go_sem]
 try simp (maxSteps:=9^9) only[go_sem,h3]
 refine LoopG.intro _ _ _ (fun i:Nat=>⟨[(0,.sc (.int .i64 n)),(1,.sl .int l),(5,.row 0 0),(22,.sc (.int .i64 n)),(23,.sc (.int .i64 i))],[(0,.row 33 tRat 0 true (spdL n l i))]⟩) (fun i=>(i:Int)<=n) (fun i=>(n - i).toNat) 0 ?_ (by omega) ?_
 ·refine Wk.mk [] ?_
  try simp (maxSteps:=9^9) only[go_sem]
  try (and_intros<;>first|rfl|omega|exact ⟨_,rfl⟩)
  all_goals (exact ⟨rfl,rfl⟩)
 ·intro i hin
  have hk:=limA_le hok i
  have hsq:=sq_le hk
  try simp (maxSteps:=9^9) only[go_sem]
  refine CondW_dec (fun hA=>?_) (fun hA=>?_)
  ·have hpath:(0 < (i:Int)/\(i:Int) < n - 1/\limA n l i=min (ni l ((i:Int) - 1).toNat) (ni l i))\/(¬ 0 < (i:Int)/\limA n l i=0)\/(0 < (i:Int)/\¬ (i:Int) < n - 1/\limA n l i=0):=by
    unfold limA
    by_cases g1:0 < (i:Int)
    ·by_cases g2:(i:Int) < n - 1
     ·exact .inl ⟨g1,g2,if_pos ⟨g1,g2⟩⟩
     ·exact .inr (.inr ⟨g1,g2,if_neg fun h=>g2 h.2⟩)
    ·exact .inr (.inl ⟨g1,if_neg fun h=>g1 h.1⟩)
   rcases hpath with ⟨hB,hC,hlim⟩|⟨hB,hlim⟩|⟨hB,hC,hlim⟩
   ·try simp (maxSteps:=9^9) only[go_sem,hA]
    repeat refine And.intro (by first|omega|(constructor<;>omega)|kernel_rfl) ?_
    try simp (maxSteps:=9^9) only[go_sem,hB,hC]
    repeat refine And.intro (by first|omega|(constructor<;>omega)|kernel_rfl) ?_
    rw [<-hlim]
    repeat refine And.intro (by first|omega|(constructor<;>omega)|kernel_rfl) ?_
    refine CallW.mk (ratInt_fn (limA n l i * limA n l i)) ?_
    try simp (maxSteps:=9^9) only[go_sem]
    try simp (maxSteps:=9^9) only[go_sem,spdL_len]
    repeat refine And.intro (by first|omega|(constructor<;>omega)|kernel_rfl) ?_
    refine LoopK.mk (i+1) ?_ (by omega) (by omega)
    refine Wk.mk [] ?_
    try simp (maxSteps:=9^9) only[go_sem]
    try (and_intros<;>first|rfl|omega|exact ⟨_,rfl⟩)
    all_goals (rw [spdL_succ]; exact ⟨by omega,rfl⟩)
   ·try simp (maxSteps:=9^9) only[go_sem,hA]
    repeat refine And.intro (by first|omega|(constructor<;>omega)|kernel_rfl) ?_
    try simp (maxSteps:=9^9) only[go_sem,hB]
    repeat refine And.intro (by first|omega|(constructor<;>omega)|kernel_rfl) ?_
    refine CallW.mk (ratInt_fn (0 * 0)) ?_
    try simp (maxSteps:=9^9) only[go_sem]
    try simp (maxSteps:=9^9) only[go_sem,spdL_len]
    repeat refine And.intro (by first|omega|(constructor<;>omega)|kernel_rfl) ?_
    refine LoopK.mk (i+1) ?_ (by omega) (by omega)
    refine Wk.mk [] ?_
    try simp (maxSteps:=9^9) only[go_sem]
    try (and_intros<;>first|rfl|omega|exact ⟨_,rfl⟩)
    all_goals (rw [spdL_succ,hlim]; exact ⟨by omega,rfl⟩)
   ·try simp (maxSteps:=9^9) only[go_sem,hA]
    repeat refine And.intro (by first|omega|(constructor<;>omega)|kernel_rfl) ?_
    try simp (maxSteps:=9^9) only[go_sem,hB,hC]
    repeat refine And.intro (by first|omega|(constructor<;>omega)|kernel_rfl) ?_
    refine CallW.mk (ratInt_fn (0 * 0)) ?_
    try simp (maxSteps:=9^9) only[go_sem]
    try simp (maxSteps:=9^9) only[go_sem,spdL_len]
    repeat refine And.intro (by first|omega|(constructor<;>omega)|kernel_rfl) ?_
    refine LoopK.mk (i+1) ?_ (by omega) (by omega)
    refine Wk.mk [] ?_
    try simp (maxSteps:=9^9) only[go_sem]
    try (and_intros<;>first|rfl|omega|exact ⟨_,rfl⟩)
    all_goals (rw [spdL_succ,hlim]; exact ⟨by omega,rfl⟩)
  ·try simp (maxSteps:=9^9) only[go_sem]
   rw [show n.toNat=i by omega]
   try exact ⟨_,_,rfl,rfl⟩
end Go.Proofs.YtaflkgjckmfkoaaGreat.DW

namespace Go.Proofs.YtaflkgjckmfkoaaGreat.DW
open Go.RowKit
attribute [go_sem] argV
noncomputable def gn (a:Int) (p q:DP):Option Rat:=mulO (some ((2 * a:Int):Rat)) (mvO p q)
theorem okO_gn (a:Int) (p q:DP):okO (gn a p q):=okO_mul _ _
theorem okO_2a {a:Int} (h:1<=a/\a<=1000):okO (some ((2 * a:Int):Rat)):=by
 intro q hq; injection hq with hq; subst hq
 exact ⟨Nat.le_trans (nl_small (n:=(2 * a).natAbs) (by omega)) (by decide),Nat.le_trans (nl_small (n:=1) (by decide)) (by decide)⟩
noncomputable def vl (w:List DR) (i:Nat):Option Rat:=rdO (nth (t:=tRat) w i)
noncomputable def upd (w:List DR) (i j:Nat) (g:Option Rat):List DR:=w.set i (oD (minO (vl w i) (addO (vl w j) g)))
theorem upd_len (w:List DR) (i j:Nat) (g:Option Rat):(upd w i j g).length=w.length:=List.length_set
theorem okO_vl (w:List DR) (i:Nat):okO (vl w i):=okO_rdO _
theorem okO_upd (w:List DR) (i j:Nat) (g:Option Rat):okO (minO (vl w i) (addO (vl w j) g)):=okO_min (okO_vl _ _) (okO_add _ _)
def CN (w:List DR):Prop:=∀ i,i < w.length->oD (vl w i)=nth (t:=tRat) w i
theorem nth_set {w:List DR} {i k:Nat} {x:DR} (hi:i < w.length):nth (t:=tRat) (w.set i x) k=if k=i then x else nth (t:=tRat) w k:=by
 unfold nth
 rw [List.getD_eq_getElem?_getD,List.getD_eq_getElem?_getD,List.getElem?_set]
 by_cases h:i=k
 ·subst h; simp [hi]
 ·rw [if_neg h,if_neg (fun e=>h e.symm)]
theorem vl_upd {w:List DR} {i j k:Nat} {g:Option Rat} (hi:i < w.length):vl (upd w i j g) k=if k=i then minO (vl w i) (addO (vl w j) g) else vl w k:=by
 unfold vl upd
 rw [nth_set hi]
 split
 ·rw [rdO_oD (okO_upd w i j g)]; rfl
 ·rfl
theorem CN_upd {w:List DR} (h:CN w) {i j:Nat} {g:Option Rat} (hi:i < w.length):CN (upd w i j g):=fun k hk=>by
 rw [upd_len] at hk
 rw [vl_upd hi]
 unfold upd
 rw [nth_set hi]
 split
 ·rfl
 ·exact h k hk
abbrev pn (l:List DP) (i:Nat):DP:=nth (t:=tPoint) l i
noncomputable def fwR (l:List DP) (a:Int):Nat->List DR->List DR
 | 0,w=>w
 | k+1,w=>upd (fwR l a k w) (k+1) k (gn a (pn l k) (pn l (k+1)))
noncomputable def bwR (l:List DP) (a:Int) (n:Nat):Nat->List DR->List DR
 | 0,w=>w
 | k+1,w=>upd (bwR l a n k w) (n - 2 - k) (n - 2 - k+1) (gn a (pn l (n - 2 - k)) (pn l (n - 2 - k+1)))
theorem fwR_len (l:List DP) (a:Int) (k:Nat) (w:List DR):(fwR l a k w).length=w.length:=by
 induction k with
 | zero=>rfl
 | succ k ih=>rw [fwR,upd_len,ih]
theorem bwR_len (l:List DP) (a:Int) (n k:Nat) (w:List DR):(bwR l a n k w).length=w.length:=by
 induction k with
 | zero=>rfl
 | succ k ih=>rw [bwR,upd_len,ih]
theorem CN_fw {l:List DP} {a:Int} {w:List DR} (h:CN w) (k:Nat) (hk:k < w.length):CN (fwR l a k w):=by
 induction k with
 | zero=>exact h
 | succ k ih=>exact CN_upd (ih (by omega)) (by rw [fwR_len]; omega)
theorem CN_bw {l:List DP} {a:Int} {n:Nat} {w:List DR} (h:CN w) (hn:w.length=n) (k:Nat) (hk:k < n):CN (bwR l a n k w):=by
 induction k with
 | zero=>exact h
 | succ k ih=>exact CN_upd (ih (by omega)) (by rw [bwR_len]; omega)
noncomputable def profW (l:List DP) (a:Int) (w:List DR):List DR:=bwR l a w.length (w.length - 1) (fwR l a (w.length - 1) w)
theorem minO_none_l (y:Option Rat):minO none y=none:=rfl
theorem minO_none_r (x:Option Rat):minO x none=none:=by cases x<;>rfl
theorem fw_none {l:List DP} {a:Int} {w:List DR} {i:Nat} (hg:gn a (pn l i) (pn l (i+1))=none) (k:Nat) (hk:i < k) (hkw:k < w.length):vl (fwR l a k w) (i+1)=none:=by
 induction k with
 | zero=>omega
 | succ k ih =>
  rw [fwR,vl_upd (by rw [fwR_len]; omega)]
  by_cases h:i=k
  ·subst h
   rw [if_pos rfl,hg,addO_none_r,minO_none_r]
  ·rw [if_neg (by omega)]
   exact ih (by omega) (by omega)
theorem bw_none {l:List DP} {a:Int} {n:Nat} {w:List DR} {i:Nat} (hv:vl w i=none) (hn:w.length=n) (k:Nat) (hk:k < n):vl (bwR l a n k w) i=none:=by
 induction k with
 | zero=>exact hv
 | succ k ih =>
  rw [bwR,vl_upd (by rw [bwR_len]; omega)]
  split
  ·rename_i h
   rw [<-h,ih (by omega),minO_none_l]
  ·exact ih (by omega)
noncomputable def allGood (w:List DR):Bool:=!(w.any fun r=>!okR r)
theorem allGood_f {w:List DR} {i:Nat} (hi:i < w.length) (h:vl w i=none):allGood w=false:=by
 unfold allGood
 rw [Bool.not_eq_false',List.any_eq_true]
 refine ⟨nth (t:=tRat) w i,by rw [nth_lt hi]; exact List.getElem_mem hi,?_⟩
 have:okR (nth (t:=tRat) w i)=false:=by unfold okR; unfold vl at h; rw [h]; rfl
 rw [this]; rfl
theorem prof_bad {l:List DP} {a:Int} {w:List DR} {i:Nat} (hg:gn a (pn l i) (pn l (i+1))=none) (hi:i+1 < w.length):allGood (profW l a w)=false:=by
 refine allGood_f (i:=i+1) (by unfold profW; rw [bwR_len,fwR_len]; omega) ?_
 exact bw_none (fw_none hg _ (by omega) (by omega)) (fwR_len ..) _ (by omega)
noncomputable def prof (l:List DP) (a:Int) (w:List DR):List DR:=if (decide (1<=a/\a<=1000) && allGood (profW l a w))=true then profW l a w else []
theorem CN_prof {l:List DP} {a:Int} {w:List DR} (h:CN w) (hw:0 < w.length):CN (profW l a w):=CN_bw (CN_fw h _ (by omega)) (fwR_len ..) _ (by omega)
theorem CN_spd {n:Int} {l:List Int} (h:spdOk n l) (k:Nat):CN (spdL n l k):=fun i hi=>by
 rw [spdL_len] at hi
 have e:nth (t:=tRat) (spdL n l k) i=ratI (limA n l i * limA n l i):=by
  rw [nth_lt (by rw [spdL_len]; exact hi)]; simp [spdL]
 have hk:=limA_le h i
 have hsq:=sq_le hk
 have ho:okO (some (((limA n l i * limA n l i:Int)):Rat)):=by
  intro q hq; injection hq with hq; subst hq
  exact ⟨Nat.le_trans (nl_small (n:=(limA n l i * limA n l i).natAbs) (by omega)) (by decide),Nat.le_trans (nl_small (n:=1) (by decide)) (by decide)⟩
 unfold vl
 rw [e,show ratI (limA n l i * limA n l i)=oD (some ((limA n l i * limA n l i:Int):Rat)) from ratI_eq _,rdO_oD ho]
end Go.Proofs.YtaflkgjckmfkoaaGreat.DW

namespace Go.Proofs.YtaflkgjckmfkoaaGreat.DW
open Go.RowKit
theorem ratI_2a (a:Int):ratI (2 * a)=oD (some ((2 * a:Int):Rat)):=ratI_eq _
noncomputable def gnL (l:List DP) (a:Int) (k:Nat):List DR:=(List.range k).map fun i=>oD (gn a (pn l i) (pn l (i+1)))
theorem gnL_succ (l:List DP) (a:Int) (k:Nat):gnL l a (k+1)=gnL l a k++[oD (gn a (pn l k) (pn l (k+1)))]:=by simp [gnL,List.range_succ]
theorem gnL_len (l:List DP) (a:Int) (k:Nat):(gnL l a k).length=k:=by simp [gnL]
theorem gnL_nth (l:List DP) (a:Int) {k i:Nat} (h:i < k):nth (t:=tRat) (gnL l a k) i=oD (gn a (pn l i) (pn l (i+1))):=by
 rw [nth_lt (by rw [gnL_len]; exact h)]; simp [gnL]
theorem gains_ok (l:List DP) (a:Int) (ha:1<=a/\a<=1000) (h0:0 < l.length) (hl:l.length<=16777216) (hg:∀ i,i+1 < l.length->(gn a (pn l i) (pn l (i+1))).isSome=true) :
  Fn Tryz.prog 34 [⟨.slice tPoint,l⟩,⟨.int,a⟩] false [⟨.slice tRat,gnL l a (l.length - 1)⟩,⟨.bool,true⟩]:=by
 have c1:=ratInt_fn (2 * a)
 rw [ratI_2a] at c1
 refine fn_enter tabOK mixes Tryz.func34 rfl rfl _ Tryz.ntmps34 _ Tryz.results34 (by simp) fun hwf=>?_
 try simp (maxSteps:=9^9) only[go_sem]
 refine LoopG.intro _ _ _ (fun i:Nat=>⟨[(0,.sl tPoint l),(1,.sc (.int .i64 a)),(6,.row 0 0),(7,.sc (.int .i64 ((i:Int)+1)))],[(0,.row 33 tRat 0 true (gnL l a i))]⟩) (fun i=>i+1<=l.length) (fun i=>l.length - i) 0 ?_ (by omega) ?_
 ·refine Wk.mk [] ?_
  try simp (maxSteps:=9^9) only[go_sem]
  try (and_intros<;>first|rfl|omega|exact ⟨_,rfl⟩)
  all_goals (first|exact ⟨rfl,rfl⟩|rfl)
 ·rintro i hi
  try simp (maxSteps:=9^9) only[go_sem]
  refine CondW_dec (fun hA=>?_) (fun hA=>?_)
  ·have e1:((i:Int)+1 - 1).toNat=i:=by omega
   have e2:((i:Int)+1).toNat=i+1:=by omega
   have c2:Fn Tryz.prog 73 [⟨tPoint,nth (t:=tPoint) l ((i:Int)+1 - 1).toNat⟩,⟨tPoint,nth (t:=tPoint) l ((i:Int)+1).toNat⟩] false [⟨tRat,oD (mvO (pn l i) (pn l (i+1)))⟩]:=by
    rw [e1,e2]; exact moveLength_fn _ _
   have c3:Fn Tryz.prog 29 [⟨tRat,oD (some ((2 * a:Int):Rat))⟩,⟨tRat,oD (mvO (pn l i) (pn l (i+1)))⟩] true [⟨tRat,oD (gn a (pn l i) (pn l (i+1)))⟩]:=ratMul_fn _ _ (okO_2a ha) (okO_mv _ _)
   have c4:=isGood_fn (gn a (pn l i) (pn l (i+1)))
   rw [hg i (by omega)] at c4
   try simp (maxSteps:=9^9) only[go_sem]
   repeat refine And.intro (by first|omega|(constructor<;>omega)|kernel_rfl) ?_
   try simp (maxSteps:=9^9) only[go_sem]
   repeat refine And.intro (by first|omega|(constructor<;>omega)|kernel_rfl) ?_
   refine CallW.mk (c1) ?_
   try simp (maxSteps:=9^9) only[go_sem]
   repeat refine And.intro (by first|omega|(constructor<;>omega)|kernel_rfl) ?_
   refine CallW.mk (c2) ?_
   try simp (maxSteps:=9^9) only[go_sem]
   repeat refine And.intro (by first|omega|(constructor<;>omega)|kernel_rfl) ?_
   refine CallW.mk (c3) ?_
   try simp (maxSteps:=9^9) only[go_sem]
   repeat refine And.intro (by first|omega|(constructor<;>omega)|kernel_rfl) ?_
   refine CallW.mk (c4) ?_
   try simp (maxSteps:=9^9) only[go_sem]
   try simp (maxSteps:=9^9) only[go_sem,gnL_len]
   repeat refine And.intro (by first|omega|(constructor<;>omega)|kernel_rfl) ?_
   refine LoopK.mk (i+1) ?_ (by omega) (by omega)
   refine Wk.mk [] ?_
   try simp (maxSteps:=9^9) only[go_sem]
   try (and_intros<;>first|rfl|omega|exact ⟨_,rfl⟩)
   all_goals (rw [gnL_succ]; exact ⟨by omega,rfl⟩)
  ·rw [show l.length - 1=i by omega]
   try simp (maxSteps:=9^9) only[go_sem]
   all_goals repeat refine And.intro (by first|omega|(constructor<;>omega)|kernel_rfl) ?_
   all_goals first|kernel_rfl|omega|rfl
theorem gains_bad (l:List DP) (a:Int) (ha:1<=a/\a<=1000) (h0:0 < l.length) (hl:l.length<=16777216) (hg:¬ ∀ i,i+1 < l.length->(gn a (pn l i) (pn l (i+1))).isSome=true) :
  Fn Tryz.prog 34 [⟨.slice tPoint,l⟩,⟨.int,a⟩] false [⟨.slice tRat,[]⟩,⟨.bool,false⟩]:=by
 have c1:=ratInt_fn (2 * a)
 rw [ratI_2a] at c1
 refine fn_enter tabOK mixes Tryz.func34 rfl rfl _ Tryz.ntmps34 _ Tryz.results34 (by simp) fun hwf=>?_
 try simp (maxSteps:=9^9) only[go_sem]
 refine LoopG.intro _ _ _ (fun i:Nat=>⟨[(0,.sl tPoint l),(1,.sc (.int .i64 a)),(6,.row 0 0),(7,.sc (.int .i64 ((i:Int)+1)))],[(0,.row 33 tRat 0 true (gnL l a i))]⟩) (fun i=>i+1<=l.length/\∀ j,j < i->(gn a (pn l j) (pn l (j+1))).isSome=true) (fun i=>l.length - i) 0 ?_ ⟨by omega,fun j h=>absurd h (Nat.not_lt_zero _)⟩ ?_
 ·refine Wk.mk [] ?_
  try simp (maxSteps:=9^9) only[go_sem]
  try (and_intros<;>first|rfl|omega|exact ⟨_,rfl⟩)
  all_goals (first|exact ⟨rfl,rfl⟩|rfl)
 ·rintro i ⟨hi,hall⟩
  try simp (maxSteps:=9^9) only[go_sem]
  refine CondW_dec (fun hA=>?_) (fun hA=>?_)
  ·have e1:((i:Int)+1 - 1).toNat=i:=by omega
   have e2:((i:Int)+1).toNat=i+1:=by omega
   have c2:Fn Tryz.prog 73 [⟨tPoint,nth (t:=tPoint) l ((i:Int)+1 - 1).toNat⟩,⟨tPoint,nth (t:=tPoint) l ((i:Int)+1).toNat⟩] false [⟨tRat,oD (mvO (pn l i) (pn l (i+1)))⟩]:=by
    rw [e1,e2]; exact moveLength_fn _ _
   have c3:Fn Tryz.prog 29 [⟨tRat,oD (some ((2 * a:Int):Rat))⟩,⟨tRat,oD (mvO (pn l i) (pn l (i+1)))⟩] true [⟨tRat,oD (gn a (pn l i) (pn l (i+1)))⟩]:=ratMul_fn _ _ (okO_2a ha) (okO_mv _ _)
   have c4:=isGood_fn (gn a (pn l i) (pn l (i+1)))
   cases hs:(gn a (pn l i) (pn l (i+1))).isSome<;>rw [hs] at c4
   ·try simp (maxSteps:=9^9) only[go_sem]
    repeat refine And.intro (by first|omega|(constructor<;>omega)|kernel_rfl) ?_
    try simp (maxSteps:=9^9) only[go_sem]
    repeat refine And.intro (by first|omega|(constructor<;>omega)|kernel_rfl) ?_
    refine CallW.mk (c1) ?_
    try simp (maxSteps:=9^9) only[go_sem]
    repeat refine And.intro (by first|omega|(constructor<;>omega)|kernel_rfl) ?_
    refine CallW.mk (c2) ?_
    try simp (maxSteps:=9^9) only[go_sem]
    repeat refine And.intro (by first|omega|(constructor<;>omega)|kernel_rfl) ?_
    refine CallW.mk (c3) ?_
    try simp (maxSteps:=9^9) only[go_sem]
    repeat refine And.intro (by first|omega|(constructor<;>omega)|kernel_rfl) ?_
    refine CallW.mk (c4) ?_
    try simp (maxSteps:=9^9) only[go_sem]
    all_goals repeat refine And.intro (by first|omega|(constructor<;>omega)|kernel_rfl) ?_
    all_goals first|kernel_rfl|omega|rfl
   ·try simp (maxSteps:=9^9) only[go_sem]
    repeat refine And.intro (by first|omega|(constructor<;>omega)|kernel_rfl) ?_
    try simp (maxSteps:=9^9) only[go_sem]
    repeat refine And.intro (by first|omega|(constructor<;>omega)|kernel_rfl) ?_
    refine CallW.mk (c1) ?_
    try simp (maxSteps:=9^9) only[go_sem]
    repeat refine And.intro (by first|omega|(constructor<;>omega)|kernel_rfl) ?_
    refine CallW.mk (c2) ?_
    try simp (maxSteps:=9^9) only[go_sem]
    repeat refine And.intro (by first|omega|(constructor<;>omega)|kernel_rfl) ?_
    refine CallW.mk (c3) ?_
    try simp (maxSteps:=9^9) only[go_sem]
    repeat refine And.intro (by first|omega|(constructor<;>omega)|kernel_rfl) ?_
    refine CallW.mk (c4) ?_
    try simp (maxSteps:=9^9) only[go_sem]
    try simp (maxSteps:=9^9) only[go_sem,gnL_len]
    repeat refine And.intro (by first|omega|(constructor<;>omega)|kernel_rfl) ?_
    refine LoopK.mk (i+1) ?_ ⟨by omega,fun j h=>?_⟩ (by omega)
    ·refine Wk.mk [] ?_
     try simp (maxSteps:=9^9) only[go_sem]
     try (and_intros<;>first|rfl|omega|exact ⟨_,rfl⟩)
     all_goals (rw [gnL_succ]; exact ⟨by omega,rfl⟩)
    ·by_cases h3:j < i
     ·exact hall j h3
     ·rw [show j=i by omega]; exact hs
  ·exact absurd (fun j h=>hall j (by omega)) hg
end Go.Proofs.YtaflkgjckmfkoaaGreat.DW

namespace Go.Proofs.YtaflkgjckmfkoaaGreat.DW
open Go.RowKit
theorem isGoodA_fn (r:DR):Fn Tryz.prog 39 [⟨tRat,r⟩] false [⟨.bool,decide ((0:Int) < r.2.length)⟩]:=by
 refine fn_enter tabOK mixes Tryz.func39 rfl rfl _ Tryz.ntmps39 _ Tryz.results39 (by simp) fun hwf=>?_
 try simp (maxSteps:=9^9) only[go_sem]
theorem profC_fn (r:DR):Fn Tryz.prog 60 [⟨tRat,r⟩] false [⟨.bool,!decide ((0:Int) < r.2.length)⟩]:=by
 refine fn_enter tabOK mixes Tryz.func60 rfl rfl _ Tryz.ntmps60 _ Tryz.results60 (by simp) fun hwf=>?_
 try simp (maxSteps:=9^9) only[go_sem]
 repeat refine And.intro (by first|omega|(constructor<;>omega)|kernel_rfl) ?_
 refine CallW.mk (isGoodA_fn r) ?_
 try simp (maxSteps:=9^9) only[go_sem]
theorem good_len {x:Option Rat} (h:okO x):decide ((0:Int) < (oD x).2.length)=okR (oD x):=by
 unfold okR
 rw [rdO_oD h]
 cases x with
 | none=>rfl
 | some q =>
  have:0 < nl q.den:=Nat.pos_of_ne_zero fun e=>q.den_nz (nl_eq_zero.1 e)
  exact decide_eq_true (by show (0:Int) < nl q.den; omega)
theorem any_good {w:List DR} (h:CN w):(w.any fun r=>!decide ((0:Int) < r.2.length))=!allGood w:=by
 unfold allGood
 rw [Bool.not_not]
 have:∀ r ∈ w,(!decide ((0:Int) < r.2.length))=!okR r:=fun r hr=>by
  obtain ⟨i,hi,rfl⟩:=List.getElem_of_mem hr
  have e:=h i hi
  rw [nth_lt hi] at e
  rw [<-e,good_len (okO_vl w i)]
 clear h
 induction w with
 | nil=>rfl
 | cons x l ih=>rw [List.any_cons,List.any_cons,this x List.mem_cons_self,ih fun r hr=>this r (List.mem_cons_of_mem _ hr)]
theorem good_mem {w:List DR} (h:allGood w=true):∀ r ∈ w,okR r=true:=fun r hr=>by
 unfold allGood at h
 rw [Bool.not_eq_true',List.any_eq_false] at h
 simpa using h r hr
set_option maxRecDepth 100000 in
set_option maxHeartbeats 8000000 in
theorem implProfile_fb (ow:Bool) (l:List DP) (a:Int) (w:List DR) (hw:w.length=l.length) (h0:0 < l.length) (hl:l.length<=16777216) (hc:CN w) :
  FnB Tryz.prog 26 [.sl tPoint l,.row 0 0,.sc (.int .i64 a)] [(0,.row 33 tRat 0 ow w)] true [⟨.slice tRat,prof l a w⟩]:=by
 have d0:decide ((w.length:Int)=0)=false:=decide_eq_false (by omega)
 have c1:=isSpeed_fn a
 by_cases ha:1<=a/\a<=1000
 rotate_left
 ·have e:prof l a w=[]:=by unfold prof; rw [decide_eq_false ha]; rfl
  rw [decide_eq_false ha] at c1
  rw [e]
  refine fnB_enter tabOK mixes Tryz.func26 rfl rfl _ Tryz.ntmps26 _ Tryz.results26 (by simp) ?_
  try simp (maxSteps:=9^9) only[go_sem,d0]
  repeat refine And.intro (by first|omega|(constructor<;>omega)|kernel_rfl) ?_
  refine CallW.mk (c1) ?_
  try simp (maxSteps:=9^9) only[go_sem]
 rw [decide_eq_true ha] at c1
 by_cases hg:∀ i,i+1 < l.length->(gn a (pn l i) (pn l (i+1))).isSome=true
 rotate_left
 ·have c2:=gains_bad l a ha h0 hl hg
  have e:prof l a w=[]:=by
   have:allGood (profW l a w)=false:=by
    obtain ⟨i,hi⟩:=Classical.not_forall.1 hg
    obtain ⟨h1,h2⟩:=Classical.not_imp.1 hi
    refine prof_bad (i:=i) ?_ (by omega)
    cases hx:gn a (pn l i) (pn l (i+1)) with
    | none=>rfl
    | some q=>rw [hx] at h2; exact absurd rfl h2
   unfold prof; rw [this,Bool.and_false]; rfl
  rw [e]
  refine fnB_enter tabOK mixes Tryz.func26 rfl rfl _ Tryz.ntmps26 _ Tryz.results26 (by simp) ?_
  try simp (maxSteps:=9^9) only[go_sem,d0]
  repeat refine And.intro (by first|omega|(constructor<;>omega)|kernel_rfl) ?_
  refine CallW.mk (c1) ?_
  try simp (maxSteps:=9^9) only[go_sem]
  repeat refine And.intro (by first|omega|(constructor<;>omega)|kernel_rfl) ?_
  refine CallW.mk (c2) ?_
  try simp (maxSteps:=9^9) only[go_sem]
 have c2:=gains_ok l a ha h0 hl hg
 have hcp:=CN_prof (l:=l) (a:=a) hc (by omega)
 have hlp:(profW l a w).length=l.length:=by unfold profW; rw [bwR_len,fwR_len,hw]
 have c7:=containsFunc_rat_fn _ _ profC_fn (profW l a w)
 rw [any_good hcp] at c7
 have hpr:prof l a w=if allGood (profW l a w)=true then profW l a w else []:=by unfold prof; rw [decide_eq_true ha,Bool.true_and]
 rw [hpr]
 refine fnB_enter tabOK mixes Tryz.func26 rfl rfl _ Tryz.ntmps26 _ Tryz.results26 (by simp) ?_
 try simp (maxSteps:=9^9) only[go_sem,d0]
 repeat refine And.intro (by first|omega|(constructor<;>omega)|kernel_rfl) ?_
 refine CallW.mk (c1) ?_
 try simp (maxSteps:=9^9) only[go_sem]
 repeat refine And.intro (by first|omega|(constructor<;>omega)|kernel_rfl) ?_
 refine CallW.mk (c2) ?_
 try simp (maxSteps:=9^9) only[go_sem]
 refine LoopG.intro _ _ _ (fun i:Nat=>⟨[(1,.row 0 0),(7,.sl tRat (gnL l a (l.length - 1))),(9,.sc (.int .i64 ((i:Int)+1)))],[(0,.row 33 tRat 0 false (fwR l a i w))]⟩) (fun i=>i+1<=l.length) (fun i=>l.length - i) 0 ?_ (by omega) ?_
 ·refine Wk.mk [] ?_
  try simp (maxSteps:=9^9) only[go_sem]
  try (and_intros<;>first|rfl|omega|exact ⟨_,rfl⟩)
 ·rintro i hi
  have hWl:=fwR_len l a i w
  have hWc:=CN_fw (l:=l) (a:=a) hc i (by omega)
  have e1:((i:Int)+1 - 1).toNat=i:=by omega
  have e2:((i:Int)+1).toNat=i+1:=by omega
  generalize hW:fwR l a i w=W at hWl hWc ⊢
  try simp (maxSteps:=9^9) only[go_sem,hWl]
  refine CondW_dec (fun hA=>?_) (fun hA=>?_)
  ·have hst:fwR l a (i+1) w=W.set ((i:Int)+1).toNat (oD (minO (vl W (i+1)) (addO (vl W i) (gn a (pn l i) (pn l (i+1)))))):=by
    rw [e2,<-hW]; rfl
   have c5:Fn Tryz.prog 40 [⟨tRat,nth (t:=tRat) W ((i:Int)+1 - 1).toNat⟩,⟨tRat,nth (t:=tRat) (gnL l a (l.length - 1)) ((i:Int)+1 - 1).toNat⟩] true [⟨tRat,oD (addO (vl W i) (gn a (pn l i) (pn l (i+1))))⟩]:=by
    rw [e1,<-hWc i (by omega),gnL_nth l a (by omega)]
    exact ratAdd_fn _ _ (okO_vl _ _) (okO_gn _ _ _)
   have c6:Fn Tryz.prog 58 [⟨tRat,nth (t:=tRat) W ((i:Int)+1).toNat⟩,⟨tRat,oD (addO (vl W i) (gn a (pn l i) (pn l (i+1))))⟩] false [⟨tRat,oD (minO (vl W (i+1)) (addO (vl W i) (gn a (pn l i) (pn l (i+1)))))⟩]:=by
    rw [e2,<-hWc (i+1) (by omega)]
    exact ratMin_fn _ _ (okO_vl _ _) (okO_add _ _)
   have hgl:=gnL_len l a (l.length - 1)
   try simp (maxSteps:=9^9) only[go_sem]
   repeat refine And.intro (by first|omega|(constructor<;>omega)|kernel_rfl) ?_
   refine CallW.mk (c5) ?_
   try simp (maxSteps:=9^9) only[go_sem]
   repeat refine And.intro (by first|omega|(constructor<;>omega)|kernel_rfl) ?_
   refine CallW.mk (c6) ?_
   try simp (maxSteps:=9^9) only[go_sem]
   repeat refine And.intro (by first|omega|(constructor<;>omega)|kernel_rfl) ?_
   refine LoopK.mk (i+1) ?_ (by omega) (by omega)
   rw [hst]
   refine Wk.mk [] ?_
   try simp (maxSteps:=9^9) only[go_sem]
   try (and_intros<;>first|rfl|omega|exact ⟨_,rfl⟩)
  ·have hin:i=l.length - 1:=by omega
   have hWe:W=fwR l a (w.length - 1) w:=by rw [<-hW,hin,hw]
   try simp (maxSteps:=9^9) only[go_sem]
   repeat refine And.intro (by first|omega|(constructor<;>omega)|kernel_rfl) ?_
   try simp (maxSteps:=9^9) only[go_sem,hWl]
   repeat refine And.intro (by first|omega|(constructor<;>omega)|kernel_rfl) ?_
   refine LoopG.intro _ _ _ (fun j:Nat=>⟨[(1,.row 0 0),(7,.sl tRat (gnL l a (l.length - 1))),(10,.sc (.int .i64 ((w.length:Int) - 2 - j)))],[(0,.row 33 tRat 0 false (bwR l a w.length j W))]⟩) (fun j=>j+1<=w.length) (fun j=>w.length - j) 0 ?_ (by omega) ?_
   ·refine Wk.mk [] ?_
    try simp (maxSteps:=9^9) only[go_sem]
    try (and_intros<;>first|rfl|omega|exact ⟨_,rfl⟩)
   ·rintro j hj
    have hVl:=bwR_len l a w.length j W
    have hVc:=CN_bw (l:=l) (a:=a) (n:=w.length) hWc hWl j (by omega)
    have hgl:=gnL_len l a (l.length - 1)
    generalize hV:bwR l a w.length j W=V at hVl hVc ⊢
    try simp (maxSteps:=9^9) only[go_sem]
    refine CondW_dec (fun hB=>?_) (fun hB=>?_)
    ·have e1:((w.length:Int) - 2 - j).toNat=w.length - 2 - j:=by omega
     have e2:((w.length:Int) - 2 - j+1).toNat=w.length - 2 - j+1:=by omega
     have hst:bwR l a w.length (j+1) W=V.set ((w.length:Int) - 2 - j).toNat (oD (minO (vl V (w.length - 2 - j)) (addO (vl V (w.length - 2 - j+1)) (gn a (pn l (w.length - 2 - j)) (pn l (w.length - 2 - j+1)))))):=by
      rw [e1,<-hV]; rfl
     have c5:Fn Tryz.prog 40 [⟨tRat,nth (t:=tRat) V ((w.length:Int) - 2 - j+1).toNat⟩,⟨tRat,nth (t:=tRat) (gnL l a (l.length - 1)) ((w.length:Int) - 2 - j).toNat⟩] true [⟨tRat,oD (addO (vl V (w.length - 2 - j+1)) (gn a (pn l (w.length - 2 - j)) (pn l (w.length - 2 - j+1))))⟩]:=by
      rw [e1,e2,<-hVc (w.length - 2 - j+1) (by omega),gnL_nth l a (by omega)]
      exact ratAdd_fn _ _ (okO_vl _ _) (okO_gn _ _ _)
     have c6:Fn Tryz.prog 58 [⟨tRat,nth (t:=tRat) V ((w.length:Int) - 2 - j).toNat⟩,⟨tRat,oD (addO (vl V (w.length - 2 - j+1)) (gn a (pn l (w.length - 2 - j)) (pn l (w.length - 2 - j+1))))⟩] false [⟨tRat,oD (minO (vl V (w.length - 2 - j)) (addO (vl V (w.length - 2 - j+1)) (gn a (pn l (w.length - 2 - j)) (pn l (w.length - 2 - j+1)))))⟩]:=by
      rw [e1,<-hVc (w.length - 2 - j) (by omega)]
      exact ratMin_fn _ _ (okO_vl _ _) (okO_add _ _)
     try simp (maxSteps:=9^9) only[go_sem]
     repeat refine And.intro (by first|omega|(constructor<;>omega)|kernel_rfl) ?_
     refine CallW.mk (c5) ?_
     try simp (maxSteps:=9^9) only[go_sem]
     repeat refine And.intro (by first|omega|(constructor<;>omega)|kernel_rfl) ?_
     refine CallW.mk (c6) ?_
     try simp (maxSteps:=9^9) only[go_sem]
     repeat refine And.intro (by first|omega|(constructor<;>omega)|kernel_rfl) ?_
     refine LoopK.mk (j+1) ?_ (by omega) (by omega)
     rw [hst]
     refine Wk.mk [] ?_
     try simp (maxSteps:=9^9) only[go_sem]
     try (and_intros<;>first|rfl|omega|exact ⟨_,rfl⟩)
    ·have hVe:V=profW l a w:=by unfold profW; rw [<-hV,<-hWe,show j=w.length - 1 by omega]
     rw [hVe]
     cases hgd:allGood (profW l a w)<;>rw [hgd] at c7
     ·rw [if_neg (by decide)]
      try simp (maxSteps:=9^9) only[go_sem]
      repeat refine And.intro (by first|omega|(constructor<;>omega)|kernel_rfl) ?_
      refine CallW.mk (c7) ?_
      try simp (maxSteps:=9^9) only[go_sem]
     ·rw [if_pos rfl]
      have hm:=good_mem hgd
      have c8:=ownRats_fn (profW l a w) (by omega) (fun r hr=>by have:=okR_len (hm r hr); omega)
      try simp (maxSteps:=9^9) only[go_sem]
      repeat refine And.intro (by first|omega|(constructor<;>omega)|kernel_rfl) ?_
      refine CallW.mk (c7) ?_
      try simp (maxSteps:=9^9) only[go_sem]
      repeat refine And.intro (by first|omega|(constructor<;>omega)|kernel_rfl) ?_
      refine CallW.mk (c8) ?_
      try simp (maxSteps:=9^9) only[go_sem]
      all_goals repeat refine And.intro (by first|omega|(constructor<;>omega)|kernel_rfl) ?_
      all_goals first|kernel_rfl|omega|rfl
end Go.Proofs.YtaflkgjckmfkoaaGreat.DW

namespace Go.Proofs.YtaflkgjckmfkoaaGreat.DW
open Go.RowKit
end Go.Proofs.YtaflkgjckmfkoaaGreat.DW

namespace Go.Proofs.YtaflkgjckmfkoaaGreat.DW
open Go.RowKit
theorem implProfile_nil (l:List DP) (a:Int):Fn Tryz.prog 26 [⟨.slice tPoint,l⟩,⟨.slice tRat,[]⟩,⟨.int,a⟩] true [⟨.slice tRat,[]⟩]:=by
 have d0:decide (((0:Nat):Int)=0)=true:=by decide
 refine fn_enter tabOK mixes Tryz.func26 rfl rfl _ Tryz.ntmps26 _ Tryz.results26 (by simp) fun hwf=>?_
 try simp (maxSteps:=9^9) only[go_sem,d0]
noncomputable def spf (l:List DP) (lims:List Int) (a:Int):List DR:=@ite _ (spdOk l.length lims) (Classical.propDecidable _) (prof l a (spdL l.length lims l.length)) []
theorem spf_t {l:List DP} {lims:List Int} {a:Int} (h:spdOk l.length lims):spf l lims a=prof l a (spdL l.length lims l.length):=if_pos h
theorem spf_f {l:List DP} {lims:List Int} {a:Int} (h:¬ spdOk l.length lims):spf l lims a=[]:=if_neg h
theorem implSpeedProfile_fn (l:List DP) (lims:List Int) (a:Int) (hl:l.length<=1048576) (hll:lims.length<=1048576):Fn Tryz.prog 8 [⟨.slice tPoint,l⟩,⟨tInts,lims⟩,⟨.int,a⟩] true [⟨.slice tRat,spf l lims a⟩]:=by
 by_cases hok:spdOk l.length lims
 ·have h0:0 < l.length:=by have:=hok.1; omega
  have cG:=implSpeedLimitsG l.length lims (by omega) hok
  have hn:((l.length:Int)).toNat=l.length:=by omega
  rw [hn] at cG
  have cB:=implProfile_fb true l a (spdL l.length lims l.length) (spdL_len ..) h0 (by omega) (CN_spd hok _)
  rw [spf_t hok]
  refine fn_tail tabOK Tryz.func8 rfl rfl _ Tryz.ntmps8 _ Tryz.results8 (by simp) fun hwf=>?_
  refine TW.seq tabOK mixes ?_
  try simp (maxSteps:=9^9) only[go_sem]
  refine TW.then tabOK mixes ?_
  refine TW.tail (own:=true) (r:=⟨.slice tRat,prof l a (spdL l.length lims l.length)⟩) tabOK 6 rfl ?_
  try simp (maxSteps:=9^9) only[go_sem]
  repeat refine And.intro (by first|omega|(constructor<;>omega)|kernel_rfl) ?_
  refine CallW.g (cG) ?_
  try simp (maxSteps:=9^9) only[go_sem]
  refine ⟨⟨[(7,.sl tPoint l),(11,.row 0 0),(12,.sc (.int .i64 a))],[(0,.row 33 tRat 0 true (spdL l.length lims l.length))]⟩,[.sl tPoint l,.row 0 0,.sc (.int .i64 a)],?_,rfl,rfl,cB,by omega,?_⟩
  ·refine Wk.mk [] ?_
   try simp (maxSteps:=9^9) only[go_sem]
   try (and_intros<;>first|rfl|omega|exact ⟨_,rfl⟩)
  ·try simp (maxSteps:=9^9) only[go_sem,resV,resM']
   all_goals repeat refine And.intro (by first|omega|(constructor<;>omega)|kernel_rfl) ?_
   all_goals first|kernel_rfl|omega|rfl
 ·have c1:=implSpeedLimits_fn l.length lims (by omega)
  rw [spd_f hok] at c1
  rw [spf_f hok]
  have c2:=implProfile_nil l a
  refine fn_enter tabOK mixes Tryz.func8 rfl rfl _ Tryz.ntmps8 _ Tryz.results8 (by simp) fun hwf=>?_
  try simp (maxSteps:=9^9) only[go_sem]
  repeat refine And.intro (by first|omega|(constructor<;>omega)|kernel_rfl) ?_
  refine CallW.mk (c1) ?_
  try simp (maxSteps:=9^9) only[go_sem]
  repeat refine And.intro (by first|omega|(constructor<;>omega)|kernel_rfl) ?_
  refine CallW.mk (c2) ?_
  try simp (maxSteps:=9^9) only[go_sem]
  all_goals repeat refine And.intro (by first|omega|(constructor<;>omega)|kernel_rfl) ?_
  all_goals first|kernel_rfl|omega|rfl
end Go.Proofs.YtaflkgjckmfkoaaGreat.DW
