/-
  Texts of a proof, one behind another: Dw47, Same, Dw26, Dw48, Dw49, Dw50, Dw51, Dw52, Dw53, Dw63, BtsV, Dw64, Dw65, Dw67, Dw27, Dw66.
-/
import Derived.Test.YtffdhjnbppagjaaGreatKB4
set_option linter.all false
namespace Go.Proofs.YtffdhjnbppagjaaGreat.DW
open Go.RowKit
theorem divO_none_l (y:Option Rat):divO none y=none:=rfl
theorem divO_none_r (x:Option Rat):divO x none=none:=by cases x<;>rfl
theorem divO_z (p:Rat) {q:Rat} (h:q=0):divO (some p) (some q)=none:=if_pos h
theorem divO_s {p q:Rat} (h:q ≠ 0):divO (some p) (some q)=capR (p / q):=by unfold divO; simp only; rw [if_neg h]
theorem okO_div (x y:Option Rat):okO (divO x y):=by
 unfold divO
 split
 ·split
  ·exact okO_none
  ·exact okO_cap _
 ·exact okO_none
theorem inv_mk {q:Rat} (h:q.num ≠ 0):q⁻¹=_root_.mkRat (if q.num < 0 then -(q.den:Int) else q.den) q.num.natAbs:=by
 rw [Rat.inv_def]
 split
 ·rename_i hn
  rw [<-Rat.neg_divInt_neg,show -q.num=((q.num.natAbs:Nat):Int) by omega,Rat.divInt_ofNat]
 ·rename_i hn
  rw [<-Rat.divInt_ofNat]
  congr 1
  omega
theorem div_mk {p q:Rat} (h:q.num ≠ 0):p / q=_root_.mkRat (p.num * (if q.num < 0 then -(q.den:Int) else q.den)) (p.den * q.num.natAbs):=by
 rw [Rat.div_def,inv_mk h]
 conv=>lhs; rw [<-Rat.mkRat_self p]
 rw [Rat.mkRat_mul_mkRat]
theorem sgn_divI {p q:Rat}:sgn (!decide (decide (p.num * (q.den:Int) < 0)=decide (q.num < 0))) (p.num * (q.den:Int)).natAbs=p.num * (if q.num < 0 then -(q.den:Int) else q.den):=by
 have hd:=den_pos' q
 unfold sgn
 by_cases h1:p.num * (q.den:Int) < 0
 ·by_cases h2:q.num < 0
  ·simp only [h1,h2,decide_true,Bool.not_true,Bool.false_eq_true,if_false,if_true]
   rw [Int.mul_neg]; omega
  ·simp only [h1,h2,decide_true,decide_false,Bool.true_eq_false,Bool.not_false,if_true,if_false]
   omega
 ·by_cases h2:q.num < 0
  ·simp only [h1,h2,decide_true,decide_false,Bool.false_eq_true,Bool.not_false,if_true]
   rw [Int.mul_neg]; omega
  ·simp only [h1,h2,decide_false,decide_true,Bool.not_true,Bool.false_eq_true,if_false]
   omega
theorem sgn_divS {p q:Rat}:sgn (!decide (decide (p.num < 0)=decide (q.num < 0))) (p.num.natAbs * q.den)=p.num * (if q.num < 0 then -(q.den:Int) else q.den):=by
 unfold sgn
 rw [Int.natCast_mul]
 by_cases h1:p.num < 0
 ·by_cases h2:q.num < 0
  ·simp only [h1,h2,decide_true,Bool.not_true,Bool.false_eq_true,if_false,if_true]
   rw [show (p.num.natAbs:Int)=-p.num by omega,Int.mul_neg,Int.neg_mul]
  ·simp only [h1,h2,decide_true,decide_false,Bool.true_eq_false,Bool.not_false,if_true,if_false]
   rw [show (p.num.natAbs:Int)=-p.num by omega,Int.neg_mul,Int.neg_neg]
 ·by_cases h2:q.num < 0
  ·simp only [h1,h2,decide_true,decide_false,Bool.false_eq_true,Bool.not_false,if_true]
   rw [show (p.num.natAbs:Int)=p.num by omega,Int.mul_neg]
  ·simp only [h1,h2,decide_false,decide_true,Bool.not_true,Bool.false_eq_true,if_false]
   rw [show (p.num.natAbs:Int)=p.num by omega]
theorem num_zero {q:Rat} (h:q.num=0):q=0:=by
 rw [<-Rat.mkRat_self q,h,Rat.zero_mkRat]
theorem ratDiv_fn (x y:Option Rat) (hx:okO x) (hy:okO y):Fn Tryz.prog 300 [⟨tRat,oD x⟩,⟨tRat,oD y⟩] true [⟨tRat,oD (divO x y)⟩]:=by
 cases x with
 | none =>
  refine fn_enter tabOK mixes Tryz.func300 rfl rfl _ Tryz.ntmps300 _ Tryz.results300 (by simp) fun hwf=>?_
  try simp (maxSteps:=9^9) only[go_sem]
  repeat refine And.intro (by first|omega|(constructor<;>omega)|kernel_rfl) ?_
  refine CallW.mk (isGood_n) ?_
  try simp (maxSteps:=9^9) only[go_sem]
  try simp (maxSteps:=9^9) only[go_sem,divO_none_l]
 | some p =>
  cases y with
  | none =>
   refine fn_enter tabOK mixes Tryz.func300 rfl rfl _ Tryz.ntmps300 _ Tryz.results300 (by simp) fun hwf=>?_
   try simp (maxSteps:=9^9) only[go_sem]
   repeat refine And.intro (by first|omega|(constructor<;>omega)|kernel_rfl) ?_
   refine CallW.mk (isGood_s p) ?_
   try simp (maxSteps:=9^9) only[go_sem]
   repeat refine And.intro (by first|omega|(constructor<;>omega)|kernel_rfl) ?_
   refine CallW.mk (isGood_n) ?_
   try simp (maxSteps:=9^9) only[go_sem]
   try simp (maxSteps:=9^9) only[go_sem,divO_none_r]
  | some q =>
   obtain ⟨p1,p2⟩:=hx p rfl
   obtain ⟨q1,q2⟩:=hy q rfl
   by_cases h0:q.num=0
   ·have e0:nl q.num.natAbs=0:=nl_eq_zero.2 (by omega)
    have d0:decide ((nl q.num.natAbs:Int)=0)=true:=decide_eq_true (by omega)
    rw [divO_z p (num_zero h0)]
    refine fn_enter tabOK mixes Tryz.func300 rfl rfl _ Tryz.ntmps300 _ Tryz.results300 (by simp) fun hwf=>?_
    try simp (maxSteps:=9^9) only[go_sem]
    repeat refine And.intro (by first|omega|(constructor<;>omega)|kernel_rfl) ?_
    refine CallW.mk (isGood_s p) ?_
    try simp (maxSteps:=9^9) only[go_sem]
    repeat refine And.intro (by first|omega|(constructor<;>omega)|kernel_rfl) ?_
    refine CallW.mk (isGood_s q) ?_
    try simp (maxSteps:=9^9) only[go_sem]
    try simp (maxSteps:=9^9) only[go_sem,d0]
   ·have hq0:q ≠ 0:=fun h=>h0 (by rw [h]; rfl)
    have d0:decide ((nl q.num.natAbs:Int)=0)=false:=decide_eq_false (fun h=>h0 (by have:=nl_eq_zero.1 (show nl q.num.natAbs=0 by omega); omega))
    have b1:=nl_mulI p.num (q.den:Int)
    have b4:=nl_mul p.den q.num.natAbs
    rw [Int.natAbs_natCast] at b1
    have hz:=ratMake_end (p.num * (if q.num < 0 then -(q.den:Int) else q.den)) (p.den * q.num.natAbs) (Nat.mul_ne_zero p.den_nz (by omega)) (by
     rw [<-sgn_divI,sgn_abs]; omega) (by omega)
    rw [<-div_mk h0] at hz
    rw [divO_s hq0]
    have c3:=bigMulN_fn p.num q.den (by omega) (by omega)
    have c4:=bigMake_to (sgn_divI (p:=p) (q:=q))
    have c5:=natMul_fn p.den q.num.natAbs (by omega) (by omega)
    refine fn_enter tabOK mixes Tryz.func300 rfl rfl _ Tryz.ntmps300 _ Tryz.results300 (by simp) fun hwf=>?_
    try simp (maxSteps:=9^9) only[go_sem]
    repeat refine And.intro (by first|omega|(constructor<;>omega)|kernel_rfl) ?_
    refine CallW.mk (isGood_s p) ?_
    try simp (maxSteps:=9^9) only[go_sem]
    repeat refine And.intro (by first|omega|(constructor<;>omega)|kernel_rfl) ?_
    refine CallW.mk (isGood_s q) ?_
    try simp (maxSteps:=9^9) only[go_sem]
    try simp (maxSteps:=9^9) only[go_sem,d0]
    repeat refine And.intro (by first|omega|(constructor<;>omega)|kernel_rfl) ?_
    refine CallW.mk (c3) ?_
    try simp (maxSteps:=9^9) only[go_sem]
    repeat refine And.intro (by first|omega|(constructor<;>omega)|kernel_rfl) ?_
    refine CallW.mk (c4) ?_
    try simp (maxSteps:=9^9) only[go_sem]
    repeat refine And.intro (by first|omega|(constructor<;>omega)|kernel_rfl) ?_
    refine CallW.mk (c5) ?_
    try simp (maxSteps:=9^9) only[go_sem]
    repeat refine And.intro (by first|omega|(constructor<;>omega)|kernel_rfl) ?_
    refine CallW.mk (hz) ?_
    try simp (maxSteps:=9^9) only[go_sem]
    all_goals repeat refine And.intro (by first|omega|(constructor<;>omega)|kernel_rfl) ?_
    all_goals first|kernel_rfl|omega|rfl
theorem l04Low0_fn (s:Bool) (a:Nat):Fn Tryz.prog 236 [⟨.bool,s⟩,⟨tInts,natL a⟩,⟨tInts,[]⟩] true [⟨tRat,oD none⟩]:=by
 have ht1:=l02Trim_fn (natL a)
 rw [trimL_natL] at ht1
 have ht2:Fn Tryz.prog 311 [⟨tInts,[]⟩] false [⟨tInts,[]⟩]:=l02Trim_fn []
 refine fn_enter tabOK mixes Tryz.func236 rfl rfl _ Tryz.ntmps236 _ Tryz.results236 (by simp) fun hwf=>?_
 try simp (maxSteps:=9^9) only[go_sem]
 repeat refine And.intro (by first|omega|(constructor<;>omega)|kernel_rfl) ?_
 refine CallW.mk (ht1) ?_
 try simp (maxSteps:=9^9) only[go_sem]
 repeat refine And.intro (by first|omega|(constructor<;>omega)|kernel_rfl) ?_
 refine CallW.mk (ht2) ?_
 try simp (maxSteps:=9^9) only[go_sem]
 refine CondW_dec (fun _=>?_) (fun h=>absurd rfl h)
 try simp (maxSteps:=9^9) only[go_sem]
theorem specRatDiv_fn (r s:DR):Fn Tryz.prog 247 [⟨tRat,r⟩,⟨tRat,s⟩] true [⟨tRat,oD (divO (rdO r) (rdO s))⟩]:=by
 have ch1:=specRatOk_fn r
 have ch2:=specRatOk_fn s
 cases h1:okR r<;>rw [h1] at ch1
 ·rw [okR_f h1,divO_none_l]
  refine fn_enter tabOK mixes Tryz.func247 rfl rfl _ Tryz.ntmps247 _ Tryz.results247 (by simp) fun hwf=>?_
  try simp (maxSteps:=9^9) only[go_sem]
  repeat refine And.intro (by first|omega|(constructor<;>omega)|kernel_rfl) ?_
  refine CallW.mk (ch1) ?_
  try simp (maxSteps:=9^9) only[go_sem]
 ·cases h2:okR s<;>rw [h2] at ch2
  ·rw [okR_f h2,divO_none_r]
   refine fn_enter tabOK mixes Tryz.func247 rfl rfl _ Tryz.ntmps247 _ Tryz.results247 (by simp) fun hwf=>?_
   try simp (maxSteps:=9^9) only[go_sem]
   repeat refine And.intro (by first|omega|(constructor<;>omega)|kernel_rfl) ?_
   refine CallW.mk (ch1) ?_
   try simp (maxSteps:=9^9) only[go_sem]
   repeat refine And.intro (by first|omega|(constructor<;>omega)|kernel_rfl) ?_
   refine CallW.mk (ch2) ?_
   try simp (maxSteps:=9^9) only[go_sem]
  ·obtain ⟨p,hp,rfl,e1⟩:=okR_t h1
   obtain ⟨q,hq,rfl,e2⟩:=okR_t h2
   rw [e1,e2]
   obtain ⟨p1,p2⟩:=hp
   obtain ⟨q1,q2⟩:=hq
   have b1:=nl_mul p.num.natAbs q.den
   have b4:=nl_mul p.den q.num.natAbs
   have c3:=l02Mul_fn p.num.natAbs q.den (by omega) (by omega)
   have c5:=l02Mul_fn p.den q.num.natAbs (by omega) (by omega)
   by_cases h0:q.num=0
   ·rw [divO_z p (num_zero h0)]
    have e0:p.den * q.num.natAbs=0:=by rw [h0]; rfl
    have c6:=l04Low0_fn (!decide (decide (p.num < 0)=decide (q.num < 0))) (p.num.natAbs * q.den)
    rw [e0,show natL 0=[] from natL_nil.2 rfl] at c5
    refine fn_enter tabOK mixes Tryz.func247 rfl rfl _ Tryz.ntmps247 _ Tryz.results247 (by simp) fun hwf=>?_
    try simp (maxSteps:=9^9) only[go_sem]
    repeat refine And.intro (by first|omega|(constructor<;>omega)|kernel_rfl) ?_
    refine CallW.mk (ch1) ?_
    try simp (maxSteps:=9^9) only[go_sem]
    repeat refine And.intro (by first|omega|(constructor<;>omega)|kernel_rfl) ?_
    refine CallW.mk (ch2) ?_
    try simp (maxSteps:=9^9) only[go_sem]
    repeat refine And.intro (by first|omega|(constructor<;>omega)|kernel_rfl) ?_
    refine CallW.mk (c3) ?_
    try simp (maxSteps:=9^9) only[go_sem]
    repeat refine And.intro (by first|omega|(constructor<;>omega)|kernel_rfl) ?_
    refine CallW.mk (c5) ?_
    try simp (maxSteps:=9^9) only[go_sem]
    repeat refine And.intro (by first|omega|(constructor<;>omega)|kernel_rfl) ?_
    refine CallW.mk (c6) ?_
    try simp (maxSteps:=9^9) only[go_sem]
    all_goals repeat refine And.intro (by first|omega|(constructor<;>omega)|kernel_rfl) ?_
    all_goals first|kernel_rfl|omega|rfl
   ·have hq0:q ≠ 0:=fun h=>h0 (by rw [h]; rfl)
    have hz:=l04Low_fn (!decide (decide (p.num < 0)=decide (q.num < 0))) (p.num.natAbs * q.den) (p.den * q.num.natAbs) (Nat.mul_ne_zero p.den_nz (by omega)) (by omega) (by omega)
    rw [sgn_divS,<-div_mk h0] at hz
    rw [divO_s hq0]
    refine fn_enter tabOK mixes Tryz.func247 rfl rfl _ Tryz.ntmps247 _ Tryz.results247 (by simp) fun hwf=>?_
    try simp (maxSteps:=9^9) only[go_sem]
    repeat refine And.intro (by first|omega|(constructor<;>omega)|kernel_rfl) ?_
    refine CallW.mk (ch1) ?_
    try simp (maxSteps:=9^9) only[go_sem]
    repeat refine And.intro (by first|omega|(constructor<;>omega)|kernel_rfl) ?_
    refine CallW.mk (ch2) ?_
    try simp (maxSteps:=9^9) only[go_sem]
    repeat refine And.intro (by first|omega|(constructor<;>omega)|kernel_rfl) ?_
    refine CallW.mk (c3) ?_
    try simp (maxSteps:=9^9) only[go_sem]
    repeat refine And.intro (by first|omega|(constructor<;>omega)|kernel_rfl) ?_
    refine CallW.mk (c5) ?_
    try simp (maxSteps:=9^9) only[go_sem]
    repeat refine And.intro (by first|omega|(constructor<;>omega)|kernel_rfl) ?_
    refine CallW.mk (hz) ?_
    try simp (maxSteps:=9^9) only[go_sem]
    all_goals repeat refine And.intro (by first|omega|(constructor<;>omega)|kernel_rfl) ?_
    all_goals first|kernel_rfl|omega|rfl
def gP (p:DP):Prop:=∃ x y,okO x/\okO y/\p=(oD x,oD y)
theorem gP_1 {p:DP} (h:gP p):oD (rdO p.1)=p.1:=by
 obtain ⟨x,y,hx,hy,rfl⟩:=h
 show oD (rdO (oD x))=oD x
 rw [rdO_oD hx]
theorem gP_2 {p:DP} (h:gP p):oD (rdO p.2)=p.2:=by
 obtain ⟨x,y,hx,hy,rfl⟩:=h
 show oD (rdO (oD y))=oD y
 rw [rdO_oD hy]
theorem gP_mk {x y:Option Rat} (hx:okO x) (hy:okO y):gP (oD x,oD y):=⟨x,y,hx,hy,rfl⟩
theorem gP_ok {p:DP} (h:okPt p=true):gP p:=by
 obtain ⟨p1,p2⟩:=Bool.and_eq_true_iff.1 (show (okR p.1 && okR p.2)=true from h)
 exact ⟨rdO p.1,rdO p.2,okO_rdO _,okO_rdO _,by rw [okR_oD p1,okR_oD p2]⟩
noncomputable def sqD (p q:DP):Option Rat:=addO (mulO (subO (rdO p.1) (rdO q.1)) (subO (rdO p.1) (rdO q.1))) (mulO (subO (rdO p.2) (rdO q.2)) (subO (rdO p.2) (rdO q.2)))
theorem small_ngi {q:Rat}:small (-q) ↔ small q:=by unfold small; rw [Rat.neg_num,Rat.neg_den,Int.natAbs_neg]
theorem capR_neg (q:Rat):capR (-q)=negO (capR q):=by
 by_cases h:small q
 ·rw [capR_s h,capR_s (small_ngi.2 h)]; rfl
 ·rw [capR_n h,capR_n (fun h'=>h (small_ngi.1 h'))]; rfl
theorem subO_swap (x y:Option Rat):subO y x=negO (subO x y):=by
 cases x with
 | none=>cases y<;>rfl
 | some p =>
  cases y with
  | none=>rfl
  | some q =>
   show capR (q+-p)=negO (capR (p+-q))
   rw [<-capR_neg]
   congr 1
   rw [Rat.neg_add,Rat.neg_neg,Rat.add_comm]
theorem mulO_nn (x y:Option Rat):mulO (negO x) (negO y)=mulO x y:=by
 cases x with
 | none=>rfl
 | some p =>
  cases y with
  | none=>rfl
  | some q =>
   show capR (-p * -q)=capR (p * q)
   rw [Rat.neg_mul,Rat.mul_neg,Rat.neg_neg]
theorem mulO_comm (x y:Option Rat):mulO x y=mulO y x:=by
 cases x<;>cases y<;>first|rfl|(show capR _=capR _; rw [Rat.mul_comm])
theorem sqD_comm (p q:DP):sqD p q=sqD q p:=by
 unfold sqD
 rw [subO_swap (rdO q.1) (rdO p.1),subO_swap (rdO q.2) (rdO p.2),mulO_nn,mulO_nn]
theorem okO_sqD (p q:DP):okO (sqD p q):=okO_add _ _
theorem squareDistance_fn (p q:DP) (hp:gP p) (hq:gP q):Fn Tryz.prog 299 [⟨tPoint,p⟩,⟨tPoint,q⟩] true [⟨tRat,oD (sqD p q)⟩]:=by
 have c1:=ratSub_fn (rdO p.1) (rdO q.1) (okO_rdO _) (okO_rdO _)
 have c2:=ratSub_fn (rdO p.2) (rdO q.2) (okO_rdO _) (okO_rdO _)
 rw [gP_1 hp,gP_1 hq] at c1
 rw [gP_2 hp,gP_2 hq] at c2
 have c3:=ratMul_fn _ _ (okO_sub (rdO p.1) (rdO q.1)) (okO_sub (rdO p.1) (rdO q.1))
 have c4:=ratMul_fn _ _ (okO_sub (rdO p.2) (rdO q.2)) (okO_sub (rdO p.2) (rdO q.2))
 have c5:=ratAdd_fn _ _ (okO_mul (subO (rdO p.1) (rdO q.1)) (subO (rdO p.1) (rdO q.1))) (okO_mul (subO (rdO p.2) (rdO q.2)) (subO (rdO p.2) (rdO q.2)))
 unfold sqD
 refine fn_enter tabOK mixes Tryz.func299 rfl rfl _ Tryz.ntmps299 _ Tryz.results299 (by simp) fun hwf=>?_
 try simp (maxSteps:=9^9) only[go_sem]
 repeat refine And.intro (by first|omega|(constructor<;>omega)|kernel_rfl) ?_
 refine CallW.mk (c1) ?_
 try simp (maxSteps:=9^9) only[go_sem]
 repeat refine And.intro (by first|omega|(constructor<;>omega)|kernel_rfl) ?_
 refine CallW.mk (c2) ?_
 try simp (maxSteps:=9^9) only[go_sem]
 repeat refine And.intro (by first|omega|(constructor<;>omega)|kernel_rfl) ?_
 refine CallW.mk (c3) ?_
 try simp (maxSteps:=9^9) only[go_sem]
 repeat refine And.intro (by first|omega|(constructor<;>omega)|kernel_rfl) ?_
 refine CallW.mk (c4) ?_
 try simp (maxSteps:=9^9) only[go_sem]
 repeat refine And.intro (by first|omega|(constructor<;>omega)|kernel_rfl) ?_
 refine CallW.mk (c5) ?_
 try simp (maxSteps:=9^9) only[go_sem]
 all_goals repeat refine And.intro (by first|omega|(constructor<;>omega)|kernel_rfl) ?_
 all_goals first|kernel_rfl|omega|rfl
theorem SquareDistanceS_fn (p q:DP):Fn Tryz.prog 245 [⟨tPoint,p⟩,⟨tPoint,q⟩] true [⟨tRat,oD (sqD p q)⟩]:=by
 have c1:=specRatSub_fn q.1 p.1
 have c2:=specRatSub_fn q.2 p.2
 have c3:=specRatMul_fn (oD (subO (rdO q.1) (rdO p.1))) (oD (subO (rdO q.1) (rdO p.1)))
 have c4:=specRatMul_fn (oD (subO (rdO q.2) (rdO p.2))) (oD (subO (rdO q.2) (rdO p.2)))
 rw [rdO_oD (okO_sub _ _)] at c3 c4
 have c5:=specRatAdd_fn (oD (mulO (subO (rdO q.1) (rdO p.1)) (subO (rdO q.1) (rdO p.1)))) (oD (mulO (subO (rdO q.2) (rdO p.2)) (subO (rdO q.2) (rdO p.2))))
 rw [rdO_oD (okO_mul _ _),rdO_oD (okO_mul _ _)] at c5
 rw [sqD_comm]
 unfold sqD
 refine fn_enter tabOK mixes Tryz.func245 rfl rfl _ Tryz.ntmps245 _ Tryz.results245 (by simp) fun hwf=>?_
 try simp (maxSteps:=9^9) only[go_sem]
 repeat refine And.intro (by first|omega|(constructor<;>omega)|kernel_rfl) ?_
 refine CallW.mk (c1) ?_
 try simp (maxSteps:=9^9) only[go_sem]
 repeat refine And.intro (by first|omega|(constructor<;>omega)|kernel_rfl) ?_
 refine CallW.mk (c2) ?_
 try simp (maxSteps:=9^9) only[go_sem]
 repeat refine And.intro (by first|omega|(constructor<;>omega)|kernel_rfl) ?_
 refine CallW.mk (c3) ?_
 try simp (maxSteps:=9^9) only[go_sem]
 repeat refine And.intro (by first|omega|(constructor<;>omega)|kernel_rfl) ?_
 refine CallW.mk (c4) ?_
 try simp (maxSteps:=9^9) only[go_sem]
 repeat refine And.intro (by first|omega|(constructor<;>omega)|kernel_rfl) ?_
 refine CallW.mk (c5) ?_
 try simp (maxSteps:=9^9) only[go_sem]
 all_goals repeat refine And.intro (by first|omega|(constructor<;>omega)|kernel_rfl) ?_
 all_goals first|kernel_rfl|omega|rfl
noncomputable def inD (a b c:DP):Option Rat:=addO (mulO (subO (rdO b.1) (rdO a.1)) (subO (rdO c.1) (rdO a.1))) (mulO (subO (rdO b.2) (rdO a.2)) (subO (rdO c.2) (rdO a.2)))
theorem inD_comm (a b c:DP):inD a b c=inD a c b:=by
 unfold inD
 rw [mulO_comm (subO (rdO b.1) (rdO a.1)),mulO_comm (subO (rdO b.2) (rdO a.2))]
theorem okO_inD (a b c:DP):okO (inD a b c):=okO_add _ _
theorem inner_fn (a b c:DP) (ha:gP a) (hb:gP b) (hc:gP c):Fn Tryz.prog 301 [⟨tPoint,a⟩,⟨tPoint,b⟩,⟨tPoint,c⟩] true [⟨tRat,oD (inD a b c)⟩]:=by
 have c1:=ratSub_fn (rdO b.1) (rdO a.1) (okO_rdO _) (okO_rdO _)
 have c2:=ratSub_fn (rdO c.1) (rdO a.1) (okO_rdO _) (okO_rdO _)
 have c3:=ratSub_fn (rdO b.2) (rdO a.2) (okO_rdO _) (okO_rdO _)
 have c4:=ratSub_fn (rdO c.2) (rdO a.2) (okO_rdO _) (okO_rdO _)
 rw [gP_1 hb,gP_1 ha] at c1
 rw [gP_1 hc,gP_1 ha] at c2
 rw [gP_2 hb,gP_2 ha] at c3
 rw [gP_2 hc,gP_2 ha] at c4
 have c5:=ratMul_fn _ _ (okO_sub (rdO b.1) (rdO a.1)) (okO_sub (rdO c.1) (rdO a.1))
 have c6:=ratMul_fn _ _ (okO_sub (rdO b.2) (rdO a.2)) (okO_sub (rdO c.2) (rdO a.2))
 have c7:=ratAdd_fn _ _ (okO_mul (subO (rdO b.1) (rdO a.1)) (subO (rdO c.1) (rdO a.1))) (okO_mul (subO (rdO b.2) (rdO a.2)) (subO (rdO c.2) (rdO a.2)))
 unfold inD
 refine fn_enter tabOK mixes Tryz.func301 rfl rfl _ Tryz.ntmps301 _ Tryz.results301 (by simp) fun hwf=>?_
 try simp (maxSteps:=9^9) only[go_sem]
 repeat refine And.intro (by first|omega|(constructor<;>omega)|kernel_rfl) ?_
 refine CallW.mk (c1) ?_
 try simp (maxSteps:=9^9) only[go_sem]
 repeat refine And.intro (by first|omega|(constructor<;>omega)|kernel_rfl) ?_
 refine CallW.mk (c2) ?_
 try simp (maxSteps:=9^9) only[go_sem]
 repeat refine And.intro (by first|omega|(constructor<;>omega)|kernel_rfl) ?_
 refine CallW.mk (c5) ?_
 try simp (maxSteps:=9^9) only[go_sem]
 repeat refine And.intro (by first|omega|(constructor<;>omega)|kernel_rfl) ?_
 refine CallW.mk (c3) ?_
 try simp (maxSteps:=9^9) only[go_sem]
 repeat refine And.intro (by first|omega|(constructor<;>omega)|kernel_rfl) ?_
 refine CallW.mk (c4) ?_
 try simp (maxSteps:=9^9) only[go_sem]
 repeat refine And.intro (by first|omega|(constructor<;>omega)|kernel_rfl) ?_
 refine CallW.mk (c6) ?_
 try simp (maxSteps:=9^9) only[go_sem]
 repeat refine And.intro (by first|omega|(constructor<;>omega)|kernel_rfl) ?_
 refine CallW.mk (c7) ?_
 try simp (maxSteps:=9^9) only[go_sem]
 all_goals repeat refine And.intro (by first|omega|(constructor<;>omega)|kernel_rfl) ?_
 all_goals first|kernel_rfl|omega|rfl
theorem InnerProductS_fn (a b c:DP):Fn Tryz.prog 248 [⟨tPoint,a⟩,⟨tPoint,b⟩,⟨tPoint,c⟩] true [⟨tRat,oD (inD a b c)⟩]:=by
 have c1:=specRatSub_fn b.1 a.1
 have c2:=specRatSub_fn c.1 a.1
 have c3:=specRatSub_fn b.2 a.2
 have c4:=specRatSub_fn c.2 a.2
 have c5:=specRatMul_fn (oD (subO (rdO b.1) (rdO a.1))) (oD (subO (rdO c.1) (rdO a.1)))
 have c6:=specRatMul_fn (oD (subO (rdO b.2) (rdO a.2))) (oD (subO (rdO c.2) (rdO a.2)))
 rw [rdO_oD (okO_sub _ _),rdO_oD (okO_sub _ _)] at c5 c6
 have c7:=specRatAdd_fn (oD (mulO (subO (rdO b.1) (rdO a.1)) (subO (rdO c.1) (rdO a.1)))) (oD (mulO (subO (rdO b.2) (rdO a.2)) (subO (rdO c.2) (rdO a.2))))
 rw [rdO_oD (okO_mul _ _),rdO_oD (okO_mul _ _)] at c7
 unfold inD
 refine fn_enter tabOK mixes Tryz.func248 rfl rfl _ Tryz.ntmps248 _ Tryz.results248 (by simp) fun hwf=>?_
 try simp (maxSteps:=9^9) only[go_sem]
 repeat refine And.intro (by first|omega|(constructor<;>omega)|kernel_rfl) ?_
 refine CallW.mk (c1) ?_
 try simp (maxSteps:=9^9) only[go_sem]
 repeat refine And.intro (by first|omega|(constructor<;>omega)|kernel_rfl) ?_
 refine CallW.mk (c2) ?_
 try simp (maxSteps:=9^9) only[go_sem]
 repeat refine And.intro (by first|omega|(constructor<;>omega)|kernel_rfl) ?_
 refine CallW.mk (c5) ?_
 try simp (maxSteps:=9^9) only[go_sem]
 repeat refine And.intro (by first|omega|(constructor<;>omega)|kernel_rfl) ?_
 refine CallW.mk (c3) ?_
 try simp (maxSteps:=9^9) only[go_sem]
 repeat refine And.intro (by first|omega|(constructor<;>omega)|kernel_rfl) ?_
 refine CallW.mk (c4) ?_
 try simp (maxSteps:=9^9) only[go_sem]
 repeat refine And.intro (by first|omega|(constructor<;>omega)|kernel_rfl) ?_
 refine CallW.mk (c6) ?_
 try simp (maxSteps:=9^9) only[go_sem]
 repeat refine And.intro (by first|omega|(constructor<;>omega)|kernel_rfl) ?_
 refine CallW.mk (c7) ?_
 try simp (maxSteps:=9^9) only[go_sem]
 all_goals repeat refine And.intro (by first|omega|(constructor<;>omega)|kernel_rfl) ?_
 all_goals first|kernel_rfl|omega|rfl
end Go.Proofs.YtffdhjnbppagjaaGreat.DW

namespace Go.Proofs.YtffdhjnbppagjaaGreat
open Go.RowKit
set_option maxHeartbeats 400000 in
theorem l04List_any (va vb:Value) (a b:DIntS) (w:World) (ha:Has RIntS w [va] a) (hb:Has RIntS w [vb] b) :
  Calls Tryz.prog 258 #[va,vb] w (Post (EqPost a b w)):=by
 obtain ⟨aa,ca,rfl,la,ma,ga⟩:=ha.elems
 obtain ⟨ab,cb,rfl,lb,mb,gb⟩:=hb.elems
 unfold maxLen at ma mb
 have HA:=Lib.hid ga; have HB:=Lib.hid gb; clear ga gb ha hb
 by_cases hl:a.length=b.length
 rotate_left
 ·have hn:((a.length:Int) != (b.length:Int))=true:=by simp; omega
  have HL:=Lib.hid hl; clear hl
  go_enter Tryz.func258,Tryz.ntmps258
  go_wp2
  go_ret
  exact ⟨_,rfl,congrArg Value.bool (eqb_false fun h=>HL.out (by rw [h])).symm,Below.refl _ _⟩
 have hn:((a.length:Int) != (b.length:Int))=false:=by simp; omega
 have HL:=Lib.hid hl; clear hl
 go_enter Tryz.func258,Tryz.ntmps258
 go_wp2
 go_loopw [13] (fun i wr=>∃ k:Nat,k<=a.length/\i=.int .i64 k/\a.take k=b.take k/\Below w.heap.size w wr) (fun i _=>a.length - (intOf i).toNat)
 case atStart=>exact ⟨0,Nat.zero_le _,rfl,rfl,Below.refl _ _⟩
 case round =>
  obtain ⟨k,hk,rfl,htk,hbw⟩:=hrel
  have HT:=Lib.hid htk; clear htk
  by_cases hlt:k < a.length
  rotate_left
  ·go_wp2
   go_ret
   exact ⟨_,rfl,congrArg Value.bool (eqb_true (by have h1:=HT.out; have h2:=HL.out; rwa [List.take_of_length_le (by omega),List.take_of_length_le (by omega)] at h1)).symm,hbw⟩
  have hlt':k < b.length:=by have:=HL.out; omega
  obtain ⟨b1,o1,cs1,rfl,hbl,hx,hcs⟩:=HA.out k hlt
  obtain ⟨b2,o2,cs2,rfl,hbl2,hy,hds⟩:=HB.out k hlt'
  obtain ⟨c0,rfl⟩:=list1 hx.len
  obtain ⟨d0,rfl⟩:=list1 hy.len
  obtain rfl:=hx.int.1
  obtain rfl:=hy.int.1
  have g0:wr.cell? ⟨b1,o1+k,none⟩=some (.int .i64 a[k]):=(hbw.cell (p:=⟨b1,_,none⟩) hbl).trans (by simpa [Rp.int] using hcs 0 _ rfl)
  have e0:wr.cell? ⟨b2,o2+k,none⟩=some (.int .i64 b[k]):=(hbw.cell (p:=⟨b2,_,none⟩) hbl2).trans (by simpa [Rp.int] using hds 0 _ rfl)
  clear hcs hds hx hy
  by_cases hab:a[k]=b[k]
  ·have hn:(a[k] != b[k])=false:=by simp [hab]
   have HAB:=Lib.hid hab; clear hab
   go_wp2
   go_quiet (fail)
   go_wp2
   go_roundw
   case rel=>exact ⟨k+1,by omega,by go_num,by rw [List.take_succ_eq_append_getElem hlt,List.take_succ_eq_append_getElem hlt',HT.out,HAB.out],hbw.drewN _⟩
   case measure=>simp [intOf]; omega
  ·have hn:(a[k] != b[k])=true:=by simp [hab]
   have HAB:=Lib.hid hab; clear hab
   go_wp2
   go_quiet (fail)
   go_wp2
   go_ret
   exact ⟨_,rfl,congrArg Value.bool (eqb_false fun h=>HAB.out (by subst h; rfl)).symm,hbw.drewN _⟩
set_option maxHeartbeats 400000 in
theorem slicesEqual_any (va vb:Value) (a b:DIntS) (w:World) (ha:Has RIntS w [va] a) (hb:Has RIntS w [vb] b) :
  Calls Tryz.prog 320 #[va,vb] w (Post (EqPost a b w)):=by
 obtain ⟨aa,ca,rfl,la,ma,ga⟩:=ha.elems
 obtain ⟨ab,cb,rfl,lb,mb,gb⟩:=hb.elems
 unfold maxLen at ma mb
 have HA:=Lib.hid ga; have HB:=Lib.hid gb; clear ga gb ha hb
 by_cases hl:a.length=b.length
 rotate_left
 ·have hn:((a.length:Int) != (b.length:Int))=true:=by simp; omega
  have HL:=Lib.hid hl; clear hl
  go_enter Tryz.func320,Tryz.ntmps320
  go_wp2
  go_ret
  exact ⟨_,rfl,congrArg Value.bool (eqb_false fun h=>HL.out (by rw [h])).symm,Below.refl _ _⟩
 have hn:((a.length:Int) != (b.length:Int))=false:=by simp; omega
 have HL:=Lib.hid hl; clear hl
 go_enter Tryz.func320,Tryz.ntmps320
 go_wp2
 go_loopw [13] (fun i wr=>∃ k:Nat,k<=a.length/\i=.int .i64 k/\a.take k=b.take k/\Below w.heap.size w wr) (fun i _=>a.length - (intOf i).toNat)
 case atStart=>exact ⟨0,Nat.zero_le _,rfl,rfl,Below.refl _ _⟩
 case round =>
  obtain ⟨k,hk,rfl,htk,hbw⟩:=hrel
  have HT:=Lib.hid htk; clear htk
  by_cases hlt:k < a.length
  rotate_left
  ·go_wp2
   go_ret
   exact ⟨_,rfl,congrArg Value.bool (eqb_true (by have h1:=HT.out; have h2:=HL.out; rwa [List.take_of_length_le (by omega),List.take_of_length_le (by omega)] at h1)).symm,hbw⟩
  have hlt':k < b.length:=by have:=HL.out; omega
  obtain ⟨b1,o1,cs1,rfl,hbl,hx,hcs⟩:=HA.out k hlt
  obtain ⟨b2,o2,cs2,rfl,hbl2,hy,hds⟩:=HB.out k hlt'
  obtain ⟨c0,rfl⟩:=list1 hx.len
  obtain ⟨d0,rfl⟩:=list1 hy.len
  obtain rfl:=hx.int.1
  obtain rfl:=hy.int.1
  have g0:wr.cell? ⟨b1,o1+k,none⟩=some (.int .i64 a[k]):=(hbw.cell (p:=⟨b1,_,none⟩) hbl).trans (by simpa [Rp.int] using hcs 0 _ rfl)
  have e0:wr.cell? ⟨b2,o2+k,none⟩=some (.int .i64 b[k]):=(hbw.cell (p:=⟨b2,_,none⟩) hbl2).trans (by simpa [Rp.int] using hds 0 _ rfl)
  clear hcs hds hx hy
  by_cases hab:a[k]=b[k]
  ·have hn:(a[k] != b[k])=false:=by simp [hab]
   have HAB:=Lib.hid hab; clear hab
   go_wp2
   go_quiet (fail)
   go_wp2
   go_roundw
   case rel=>exact ⟨k+1,by omega,by go_num,by rw [List.take_succ_eq_append_getElem hlt,List.take_succ_eq_append_getElem hlt',HT.out,HAB.out],hbw.drewN _⟩
   case measure=>simp [intOf]; omega
  ·have hn:(a[k] != b[k])=true:=by simp [hab]
   have HAB:=Lib.hid hab; clear hab
   go_wp2
   go_quiet (fail)
   go_wp2
   go_ret
   exact ⟨_,rfl,congrArg Value.bool (eqb_false fun h=>HAB.out (by subst h; rfl)).symm,hbw.drewN _⟩
set_option maxRecDepth 100000 in
set_option maxHeartbeats 400000 in
theorem specRatEqual_any (c0 c1 c2 d0 d1 d2:Value) (x y:DRat) (w:World) (hx:Has RRat w [c0,c1,c2] x) (hy:Has RRat w [d0,d1,d2] y) :
  Calls Tryz.prog 179 #[.agg #[c0,c1,c2],.agg #[d0,d1,d2]] w (Post (EqPost x y w)):=by
 obtain ⟨hx0,hx1⟩:=hx.split [c0,c1] [c2] rfl
 obtain ⟨hx00,hx01⟩:=hx0.split [c0] [c1] rfl
 obtain ⟨hy0,hy1⟩:=hy.split [d0,d1] [d2] rfl
 obtain ⟨hy00,hy01⟩:=hy0.split [d0] [d1] rfl
 obtain rfl:=hx00.bool
 obtain rfl:=hy00.bool
 have HX1:=Lib.hid hx1; have HX2:=Lib.hid hx01; have HY1:=Lib.hid hy1; have HY2:=Lib.hid hy01
 clear hx hy hx0 hx1 hy0 hy1 hx00 hx01 hy00 hy01
 have hb0:=((Below.refl w.heap.size w).alloc (Nat.le_refl _) (Obj.cells #[.bool x.1.1,c1,c2] 39)).alloc (by simp<;>omega) (Obj.cells #[.bool y.1.1,d1,d2] 39)
 by_cases he0:x.1.1=y.1.1
 rotate_left
 ·have hn:(x.1.1 == y.1.1)=false:=by simp [he0]
  have HN:=Lib.hid he0; clear he0
  go_enter Tryz.func179,Tryz.ntmps179
  go_wp2
  go_ret
  exact ⟨_,rfl,congrArg Value.bool (eqb_false fun h=>HN.out (by rw [h])).symm,hb0⟩
 have hn0:(x.1.1 == y.1.1)=true:=by simp [he0]
 have HE0:=Lib.hid he0; clear he0
 go_enter Tryz.func179,Tryz.ntmps179
 go_wp2_with fail
 refine (l04List_any _ _ _ _ _ (HX2.out.below hb0) (HY2.out.below hb0)).mono ?_
 rintro e w1 ⟨v,rfl,rfl,hbx1⟩
 have hb1:=Below.up hb0 hbx1 hb0.size
 obtain ⟨hc1,hf1⟩:=bcell hbx1
 by_cases he1:x.1.2=y.1.2
 rotate_left
 ·rw [eqb_false he1]
  have HN:=Lib.hid he1; clear he1
  go_wp2
  go_ret
  exact ⟨_,rfl,congrArg Value.bool (eqb_false fun h=>HN.out (by rw [h])).symm,hb1⟩
 rw [eqb_true he1]
 have HE1:=Lib.hid he1; clear he1
 go_wp2_with fail
 refine (l04List_any _ _ _ _ _ (HX1.out.below hb1) (HY1.out.below hb1)).mono ?_
 rintro e w2 ⟨v,rfl,rfl,hbx2⟩
 have hb2:=Below.up hb1 hbx2 hb1.size
 by_cases he2:x.2=y.2
 rotate_left
 ·rw [eqb_false he2]
  have HN:=Lib.hid he2; clear he2
  go_wp2
  go_ret
  exact ⟨_,rfl,congrArg Value.bool (eqb_false fun h=>HN.out (by rw [h])).symm,hb2⟩
 rw [eqb_true he2]
 have HE2:=Lib.hid he2; clear he2
 go_wp2
 go_ret
 exact ⟨_,rfl,congrArg Value.bool (eqb_true (Prod.ext (Prod.ext HE0.out HE1.out) HE2.out)).symm,hb2⟩
set_option maxRecDepth 100000 in
set_option maxHeartbeats 400000 in
theorem implRatEqual_any (c0 c1 c2 d0 d1 d2:Value) (x y:DRat) (w:World) (hx:Has RRat w [c0,c1,c2] x) (hy:Has RRat w [d0,d1,d2] y) :
  Calls Tryz.prog 265 #[.agg #[c0,c1,c2],.agg #[d0,d1,d2]] w (Post (EqPost x y w)):=by
 obtain ⟨hx0,hx1⟩:=hx.split [c0,c1] [c2] rfl
 obtain ⟨hx00,hx01⟩:=hx0.split [c0] [c1] rfl
 obtain ⟨hy0,hy1⟩:=hy.split [d0,d1] [d2] rfl
 obtain ⟨hy00,hy01⟩:=hy0.split [d0] [d1] rfl
 obtain rfl:=hx00.bool
 obtain rfl:=hy00.bool
 have HX1:=Lib.hid hx1; have HX2:=Lib.hid hx01; have HY1:=Lib.hid hy1; have HY2:=Lib.hid hy01
 clear hx hy hx0 hx1 hy0 hy1 hx00 hx01 hy00 hy01
 have hb0:=((Below.refl w.heap.size w).alloc (Nat.le_refl _) (Obj.cells #[.bool x.1.1,c1,c2] 39)).alloc (by simp<;>omega) (Obj.cells #[.bool y.1.1,d1,d2] 39)
 by_cases he0:x.1.1=y.1.1
 rotate_left
 ·have hn:(x.1.1 == y.1.1)=false:=by simp [he0]
  have HN:=Lib.hid he0; clear he0
  go_enter Tryz.func265,Tryz.ntmps265
  go_wp2
  go_ret
  exact ⟨_,rfl,congrArg Value.bool (eqb_false fun h=>HN.out (by rw [h])).symm,hb0⟩
 have hn0:(x.1.1 == y.1.1)=true:=by simp [he0]
 have HE0:=Lib.hid he0; clear he0
 go_enter Tryz.func265,Tryz.ntmps265
 go_wp2_with fail
 refine (slicesEqual_any _ _ _ _ _ (HX2.out.below hb0) (HY2.out.below hb0)).mono ?_
 rintro e w1 ⟨v,rfl,rfl,hbx1⟩
 have hb1:=Below.up hb0 hbx1 hb0.size
 obtain ⟨hc1,hf1⟩:=bcell hbx1
 by_cases he1:x.1.2=y.1.2
 rotate_left
 ·rw [eqb_false he1]
  have HN:=Lib.hid he1; clear he1
  go_wp2
  go_ret
  exact ⟨_,rfl,congrArg Value.bool (eqb_false fun h=>HN.out (by rw [h])).symm,hb1⟩
 rw [eqb_true he1]
 have HE1:=Lib.hid he1; clear he1
 go_wp2_with fail
 refine (slicesEqual_any _ _ _ _ _ (HX1.out.below hb1) (HY1.out.below hb1)).mono ?_
 rintro e w2 ⟨v,rfl,rfl,hbx2⟩
 have hb2:=Below.up hb1 hbx2 hb1.size
 by_cases he2:x.2=y.2
 rotate_left
 ·rw [eqb_false he2]
  have HN:=Lib.hid he2; clear he2
  go_wp2
  go_ret
  exact ⟨_,rfl,congrArg Value.bool (eqb_false fun h=>HN.out (by rw [h])).symm,hb2⟩
 rw [eqb_true he2]
 have HE2:=Lib.hid he2; clear he2
 go_wp2
 go_ret
 exact ⟨_,rfl,congrArg Value.bool (eqb_true (Prod.ext (Prod.ext HE0.out HE1.out) HE2.out)).symm,hb2⟩
set_option maxRecDepth 100000 in
set_option maxHeartbeats 400000 in
theorem specSamePoint_any (c0 c1 c2 c3 c4 c5 d0 d1 d2 d3 d4 d5:Value) (x y:DPoint) (w:World) (hx:Has RPoint w [c0,c1,c2,c3,c4,c5] x) (hy:Has RPoint w [d0,d1,d2,d3,d4,d5] y) :
  Calls Tryz.prog 97 #[.agg #[c0,c1,c2,c3,c4,c5],.agg #[d0,d1,d2,d3,d4,d5]] w (Post (EqPost x y w)):=by
 obtain ⟨hx0,hx1⟩:=hx.split [c0,c1,c2] [c3,c4,c5] rfl
 obtain ⟨hy0,hy1⟩:=hy.split [d0,d1,d2] [d3,d4,d5] rfl
 have HX0:=Lib.hid hx0; have HX1:=Lib.hid hx1; have HY0:=Lib.hid hy0; have HY1:=Lib.hid hy1
 clear hx hy hx0 hx1 hy0 hy1
 have hb0:=((Below.refl w.heap.size w).alloc (Nat.le_refl _) (Obj.cells #[c0,c1,c2,c3,c4,c5] 48)).alloc (by simp<;>omega) (Obj.cells #[d0,d1,d2,d3,d4,d5] 48)
 go_enter Tryz.func97,Tryz.ntmps97
 go_wp2_with fail
 refine (specRatEqual_any _ _ _ _ _ _ _ _ _ (HX0.out.below hb0) (HY0.out.below hb0)).mono ?_
 rintro e w1 ⟨v,rfl,rfl,hbx1⟩
 have hb1:=Below.up hb0 hbx1 hb0.size
 obtain ⟨hc1,hf1⟩:=bcell hbx1
 by_cases he1:x.1=y.1
 rotate_left
 ·rw [eqb_false he1]
  have HN:=Lib.hid he1; clear he1
  go_wp2
  go_ret
  exact ⟨_,rfl,congrArg Value.bool (eqb_false fun h=>HN.out (by rw [h])).symm,hb1⟩
 rw [eqb_true he1]
 have HE1:=Lib.hid he1; clear he1
 go_wp2_with fail
 refine (specRatEqual_any _ _ _ _ _ _ _ _ _ (HX1.out.below hb1) (HY1.out.below hb1)).mono ?_
 rintro e w2 ⟨v,rfl,rfl,hbx2⟩
 have hb2:=Below.up hb1 hbx2 hb1.size
 by_cases he2:x.2=y.2
 rotate_left
 ·rw [eqb_false he2]
  have HN:=Lib.hid he2; clear he2
  go_wp2
  go_ret
  exact ⟨_,rfl,congrArg Value.bool (eqb_false fun h=>HN.out (by rw [h])).symm,hb2⟩
 rw [eqb_true he2]
 have HE2:=Lib.hid he2; clear he2
 go_wp2
 go_ret
 exact ⟨_,rfl,congrArg Value.bool (eqb_true (Prod.ext HE1.out HE2.out)).symm,hb2⟩
set_option maxRecDepth 100000 in
set_option maxHeartbeats 400000 in
theorem implSamePoint_any (c0 c1 c2 c3 c4 c5 d0 d1 d2 d3 d4 d5:Value) (x y:DPoint) (w:World) (hx:Has RPoint w [c0,c1,c2,c3,c4,c5] x) (hy:Has RPoint w [d0,d1,d2,d3,d4,d5] y) :
  Calls Tryz.prog 187 #[.agg #[c0,c1,c2,c3,c4,c5],.agg #[d0,d1,d2,d3,d4,d5]] w (Post (EqPost x y w)):=by
 obtain ⟨hx0,hx1⟩:=hx.split [c0,c1,c2] [c3,c4,c5] rfl
 obtain ⟨hy0,hy1⟩:=hy.split [d0,d1,d2] [d3,d4,d5] rfl
 have HX0:=Lib.hid hx0; have HX1:=Lib.hid hx1; have HY0:=Lib.hid hy0; have HY1:=Lib.hid hy1
 clear hx hy hx0 hx1 hy0 hy1
 have hb0:=((Below.refl w.heap.size w).alloc (Nat.le_refl _) (Obj.cells #[c0,c1,c2,c3,c4,c5] 48)).alloc (by simp<;>omega) (Obj.cells #[d0,d1,d2,d3,d4,d5] 48)
 go_enter Tryz.func187,Tryz.ntmps187
 go_wp2_with fail
 refine (implRatEqual_any _ _ _ _ _ _ _ _ _ (HX0.out.below hb0) (HY0.out.below hb0)).mono ?_
 rintro e w1 ⟨v,rfl,rfl,hbx1⟩
 have hb1:=Below.up hb0 hbx1 hb0.size
 obtain ⟨hc1,hf1⟩:=bcell hbx1
 by_cases he1:x.1=y.1
 rotate_left
 ·rw [eqb_false he1]
  have HN:=Lib.hid he1; clear he1
  go_wp2
  go_ret
  exact ⟨_,rfl,congrArg Value.bool (eqb_false fun h=>HN.out (by rw [h])).symm,hb1⟩
 rw [eqb_true he1]
 have HE1:=Lib.hid he1; clear he1
 go_wp2_with fail
 refine (implRatEqual_any _ _ _ _ _ _ _ _ _ (HX1.out.below hb1) (HY1.out.below hb1)).mono ?_
 rintro e w2 ⟨v,rfl,rfl,hbx2⟩
 have hb2:=Below.up hb1 hbx2 hb1.size
 by_cases he2:x.2=y.2
 rotate_left
 ·rw [eqb_false he2]
  have HN:=Lib.hid he2; clear he2
  go_wp2
  go_ret
  exact ⟨_,rfl,congrArg Value.bool (eqb_false fun h=>HN.out (by rw [h])).symm,hb2⟩
 rw [eqb_true he2]
 have HE2:=Lib.hid he2; clear he2
 go_wp2
 go_ret
 exact ⟨_,rfl,congrArg Value.bool (eqb_true (Prod.ext HE1.out HE2.out)).symm,hb2⟩
end Go.Proofs.YtffdhjnbppagjaaGreat

namespace Go.Proofs.YtffdhjnbppagjaaGreat.DW
open Go.RowKit
theorem implSame_fn (p q:DP):Fn Tryz.prog 187 [⟨tPoint,p⟩,⟨tPoint,q⟩] false [⟨.bool,eqb p q⟩]:=by
 refine Fn.ofEq (enters Tryz.func187 rfl rfl) fun w v cs u ds hp hx hq hy=>?_
 obtain rfl:=pk_agg rfl hp
 obtain ⟨c0,c1,c2,c3,c4,c5,rfl⟩:=list6 hx.len
 obtain rfl:=pk_agg rfl hq
 obtain ⟨d0,d1,d2,d3,d4,d5,rfl⟩:=list6 hy.len
 exact implSamePoint_any _ _ _ _ _ _ _ _ _ _ _ _ p q w hx hy
theorem specSame_fn (p q:DP):Fn Tryz.prog 97 [⟨tPoint,p⟩,⟨tPoint,q⟩] false [⟨.bool,eqb p q⟩]:=by
 refine Fn.ofEq (enters Tryz.func97 rfl rfl) fun w v cs u ds hp hx hq hy=>?_
 obtain rfl:=pk_agg rfl hp
 obtain ⟨c0,c1,c2,c3,c4,c5,rfl⟩:=list6 hx.len
 obtain rfl:=pk_agg rfl hq
 obtain ⟨d0,d1,d2,d3,d4,d5,rfl⟩:=list6 hy.len
 exact specSamePoint_any _ _ _ _ _ _ _ _ _ _ _ _ p q w hx hy
theorem l22Turn_fn (n:Int):Fn Tryz.prog 176 [⟨.int,n⟩] false [⟨.bool,decide (-1<=n/\n<=1)⟩]:=by
 refine fn_enter tabOK mixes Tryz.func176 rfl rfl _ Tryz.ntmps176 _ Tryz.results176 (by simp) fun hwf=>?_
 try simp (maxSteps:=9^9) only[go_sem]
 repeat refine And.intro (by first|omega|(constructor<;>omega)|kernel_rfl) ?_
 refine CallW.mk (l01In_fn n (-1) 1) ?_
 try simp (maxSteps:=9^9) only[go_sem]
noncomputable def plcF (p:DS) (l:List DS):DS:=l.foldl stp p
noncomputable def plcS (p:DS) (l:List DS) (i:Nat):DS:=plcF p (l.take i)
theorem plcS_step (p:DS) {l:List DS} {i:Nat} (h:i < l.length):plcS p l (i+1)=stp (plcS p l i) (nth (t:=tStep) l i):=by
 unfold plcS plcF
 rw [List.take_succ_eq_append_getElem h,nth_lt h]
 simp only [List.foldl_append,List.foldl_cons,List.foldl_nil]
end Go.Proofs.YtffdhjnbppagjaaGreat.DW

namespace Go.Proofs.YtffdhjnbppagjaaGreat.DW
open Go.RowKit
noncomputable def oneO:Option Rat:=some (((1:Int)):Rat)
noncomputable def zeroO:Option Rat:=some (((0:Int)):Rat)
theorem ratI_1:ratI 1=oD oneO:=ratI_eq 1
theorem ratI_z:ratI 0=oD zeroO:=ratI_eq 0
theorem ok_small {n:Int} (h:n.natAbs<=1000000):okO (some ((n:Int):Rat)):=by
 intro q hq; injection hq with hq; subst hq
 exact ⟨Nat.le_trans (nl_small (n:=n.natAbs) (by omega)) (by decide),Nat.le_trans (nl_small (n:=1) (by decide)) (by decide)⟩
theorem okO_one:okO oneO:=ok_small (by decide)
theorem okO_zero:okO zeroO:=ok_small (by decide)
theorem ratLt_as {p q:Rat} (h1:p < q):¬ q < p:=fun h=>absurd (Rat.le_of_lt h) (Rat.not_le.2 h1)
theorem minO_comm (x y:Option Rat):minO x y=minO y x:=by
 cases x with
 | none=>cases y<;>rfl
 | some p =>
  cases y with
  | none=>rfl
  | some q =>
   show (if cmpQ p q<=0 then some p else some q)=(if cmpQ q p<=0 then some q else some p)
   unfold cmpQ
   by_cases h1:p < q
   ·have h2:¬ q < p:=ratLt_as h1
    simp [h1,h2]
   ·by_cases h2:q < p
    ·simp [h1,h2]
    ·simp [h1,h2]
     exact Rat.le_antisymm (Rat.not_lt.1 h2) (Rat.not_lt.1 h1)
theorem maxO_comm (x y:Option Rat):maxO x y=maxO y x:=by
 cases x with
 | none=>cases y<;>rfl
 | some p =>
  cases y with
  | none=>rfl
  | some q =>
   show (if 0<=cmpQ p q then some p else some q)=(if 0<=cmpQ q p then some q else some p)
   unfold cmpQ
   by_cases h1:p < q
   ·have h2:¬ q < p:=ratLt_as h1
    simp [h1,h2]
   ·by_cases h2:q < p
    ·simp [h1,h2]
    ·simp [h1,h2]
     exact Rat.le_antisymm (Rat.not_lt.1 h2) (Rat.not_lt.1 h1)
noncomputable def tD (p a b:DP):Option Rat:=minO oneO (maxO zeroO (divO (inD a p b) (sqD a b)))
noncomputable def nearD (a b:DP) (t:Option Rat):DP:=(oD (addO (rdO a.1) (mulO t (subO (rdO b.1) (rdO a.1)))),oD (addO (rdO a.2) (mulO t (subO (rdO b.2) (rdO a.2)))))
noncomputable def segD (p a b:DP):Option Rat:=if eqb a b then sqD p a else sqD p (nearD a b (tD p a b))
theorem okO_segD (p a b:DP):okO (segD p a b):=by unfold segD; split<;>exact okO_sqD _ _
theorem okO_tD (p a b:DP):okO (tD p a b):=okO_min okO_one (okO_max okO_zero (okO_div _ _))
theorem gP_near (a b:DP) (t:Option Rat):gP (nearD a b t):=gP_mk (okO_add _ _) (okO_add _ _)
set_option maxRecDepth 100000 in
set_option maxHeartbeats 1000000 in
theorem toSegment_fn (p a b:DP) (hp:gP p) (ha:gP a) (hb:gP b):Fn Tryz.prog 224 [⟨tPoint,p⟩,⟨tPoint,a⟩,⟨tPoint,b⟩] true [⟨tRat,oD (segD p a b)⟩]:=by
 have c0:=implSame_fn a b
 unfold segD
 cases h:eqb a b<;>rw [h] at c0
 ·rw [if_neg (by decide)]
  have c1:=inner_fn a p b ha hp hb
  have c2:=squareDistance_fn a b ha hb
  have c3:=ratDiv_fn (inD a p b) (sqD a b) (okO_inD _ _ _) (okO_sqD _ _)
  have c4:=ratInt_fn 1
  have c5:=ratInt_fn 0
  rw [ratI_1] at c4
  rw [ratI_z] at c5
  have c6:=ratMax_fn zeroO (divO (inD a p b) (sqD a b)) okO_zero (okO_div _ _)
  have c7:=ratMin_fn oneO (maxO zeroO (divO (inD a p b) (sqD a b))) okO_one (okO_max okO_zero (okO_div _ _))
  have e7:minO oneO (maxO zeroO (divO (inD a p b) (sqD a b)))=tD p a b:=rfl
  rw [e7] at c7
  have c8:=ratSub_fn (rdO b.1) (rdO a.1) (okO_rdO _) (okO_rdO _)
  have c9:=ratMul_fn (tD p a b) (subO (rdO b.1) (rdO a.1)) (okO_tD _ _ _) (okO_sub _ _)
  have c10:=ratAdd_fn (rdO a.1) (mulO (tD p a b) (subO (rdO b.1) (rdO a.1))) (okO_rdO _) (okO_mul _ _)
  have c11:=ratSub_fn (rdO b.2) (rdO a.2) (okO_rdO _) (okO_rdO _)
  have c12:=ratMul_fn (tD p a b) (subO (rdO b.2) (rdO a.2)) (okO_tD _ _ _) (okO_sub _ _)
  have c13:=ratAdd_fn (rdO a.2) (mulO (tD p a b) (subO (rdO b.2) (rdO a.2))) (okO_rdO _) (okO_mul _ _)
  rw [gP_1 ha,gP_1 hb] at c8
  rw [gP_1 ha] at c10
  rw [gP_2 ha,gP_2 hb] at c11
  rw [gP_2 ha] at c13
  have c14:=squareDistance_fn p (nearD a b (tD p a b)) hp (gP_near _ _ _)
  unfold nearD at c14 ⊢
  generalize tD p a b=t at c7 c9 c10 c12 c13 c14 ⊢
  generalize divO (inD a p b) (sqD a b)=dv at c3 c6 c7
  refine fn_enter tabOK mixes Tryz.func224 rfl rfl _ Tryz.ntmps224 _ Tryz.results224 (by simp) fun hwf=>?_
  try simp (maxSteps:=9^9) only[go_sem]
  repeat refine And.intro (by first|omega|(constructor<;>omega)|kernel_rfl) ?_
  refine CallW.mk (c0) ?_
  try simp (maxSteps:=9^9) only[go_sem]
  repeat refine And.intro (by first|omega|(constructor<;>omega)|kernel_rfl) ?_
  refine CallW.mk (c1) ?_
  try simp (maxSteps:=9^9) only[go_sem]
  repeat refine And.intro (by first|omega|(constructor<;>omega)|kernel_rfl) ?_
  refine CallW.mk (c2) ?_
  try simp (maxSteps:=9^9) only[go_sem]
  repeat refine And.intro (by first|omega|(constructor<;>omega)|kernel_rfl) ?_
  refine CallW.mk (c3) ?_
  try simp (maxSteps:=9^9) only[go_sem]
  repeat refine And.intro (by first|omega|(constructor<;>omega)|kernel_rfl) ?_
  refine CallW.mk (c4) ?_
  try simp (maxSteps:=9^9) only[go_sem]
  repeat refine And.intro (by first|omega|(constructor<;>omega)|kernel_rfl) ?_
  refine CallW.mk (c5) ?_
  try simp (maxSteps:=9^9) only[go_sem]
  repeat refine And.intro (by first|omega|(constructor<;>omega)|kernel_rfl) ?_
  refine CallW.mk (c6) ?_
  try simp (maxSteps:=9^9) only[go_sem]
  repeat refine And.intro (by first|omega|(constructor<;>omega)|kernel_rfl) ?_
  refine CallW.mk (c7) ?_
  try simp (maxSteps:=9^9) only[go_sem]
  repeat refine And.intro (by first|omega|(constructor<;>omega)|kernel_rfl) ?_
  refine CallW.mk (c8) ?_
  try simp (maxSteps:=9^9) only[go_sem]
  repeat refine And.intro (by first|omega|(constructor<;>omega)|kernel_rfl) ?_
  refine CallW.mk (c9) ?_
  try simp (maxSteps:=9^9) only[go_sem]
  repeat refine And.intro (by first|omega|(constructor<;>omega)|kernel_rfl) ?_
  refine CallW.mk (c10) ?_
  try simp (maxSteps:=9^9) only[go_sem]
  repeat refine And.intro (by first|omega|(constructor<;>omega)|kernel_rfl) ?_
  refine CallW.mk (c11) ?_
  try simp (maxSteps:=9^9) only[go_sem]
  repeat refine And.intro (by first|omega|(constructor<;>omega)|kernel_rfl) ?_
  refine CallW.mk (c12) ?_
  try simp (maxSteps:=9^9) only[go_sem]
  repeat refine And.intro (by first|omega|(constructor<;>omega)|kernel_rfl) ?_
  refine CallW.mk (c13) ?_
  try simp (maxSteps:=9^9) only[go_sem]
  repeat refine And.intro (by first|omega|(constructor<;>omega)|kernel_rfl) ?_
  refine CallW.mk (c14) ?_
  try simp (maxSteps:=9^9) only[go_sem]
  all_goals repeat refine And.intro (by first|omega|(constructor<;>omega)|kernel_rfl) ?_
  all_goals first|kernel_rfl|omega|rfl
 ·rw [if_pos rfl]
  have c1:=squareDistance_fn p a hp ha
  refine fn_enter tabOK mixes Tryz.func224 rfl rfl _ Tryz.ntmps224 _ Tryz.results224 (by simp) fun hwf=>?_
  try simp (maxSteps:=9^9) only[go_sem]
  repeat refine And.intro (by first|omega|(constructor<;>omega)|kernel_rfl) ?_
  refine CallW.mk (c0) ?_
  try simp (maxSteps:=9^9) only[go_sem]
  repeat refine And.intro (by first|omega|(constructor<;>omega)|kernel_rfl) ?_
  refine CallW.mk (c1) ?_
  try simp (maxSteps:=9^9) only[go_sem]
  all_goals repeat refine And.intro (by first|omega|(constructor<;>omega)|kernel_rfl) ?_
  all_goals first|kernel_rfl|omega|rfl
end Go.Proofs.YtffdhjnbppagjaaGreat.DW

namespace Go.Proofs.YtffdhjnbppagjaaGreat.DW
open Go.RowKit
theorem cap_z:capR (0:Rat)=zeroO:=by
 have:=okO_zero _ rfl
 exact capR_s (q:=((0:Int):Rat)) this
theorem sqD_self {a:DP} (h:okPt a=true):sqD a a=zeroO:=by
 obtain ⟨p1,p2⟩:=Bool.and_eq_true_iff.1 (show (okR a.1 && okR a.2)=true from h)
 obtain ⟨x,_,_,e1⟩:=okR_t p1
 obtain ⟨y,_,_,e2⟩:=okR_t p2
 have s:∀ x:Rat,subO (some x) (some x)=zeroO:=fun x=>by
  show capR (x+-x)=_
  rw [<-Rat.sub_eq_add_neg,Rat.sub_self,cap_z]
 have m:mulO zeroO zeroO=zeroO:=by
  show capR (((0:Int):Rat) * ((0:Int):Rat))=_
  rw [show (((0:Int):Rat) * ((0:Int):Rat))=0 from Rat.zero_mul _,cap_z]
 unfold sqD
 rw [e1,e2,s,s,m]
 show capR (((0:Int):Rat)+((0:Int):Rat))=_
 rw [show (((0:Int):Rat)+((0:Int):Rat))=0 from Rat.add_zero _,cap_z]
theorem capR_some {q r:Rat} (h:capR q=some r):r=q:=by
 by_cases hs:small q
 ·rw [capR_s hs] at h; injection h with h; exact h.symm
 ·rw [capR_n hs] at h; cases h
theorem rat_sq_nn (x:Rat):0<=x * x:=by
 rcases Rat.le_total (a:=0) (b:=x) with h|h
 ·exact Rat.mul_nonneg h h
 ·have h2:0<=-x:=by have:=Rat.neg_le_neg h; rwa [Rat.neg_zero] at this
  have:=Rat.mul_nonneg h2 h2
  rwa [Rat.neg_mul,Rat.mul_neg,Rat.neg_neg] at this
theorem rat_sum_z {x y:Rat} (hx:0<=x) (hy:0<=y) (h:x+y=0):x=0/\y=0:=by
 have h1:x<=0:=by have:=(Rat.add_le_add_left (c:=x)).2 hy; rwa [Rat.add_zero,h] at this
 have hx0:=Rat.le_antisymm h1 hx
 subst hx0
 rw [Rat.zero_add] at h
 exact ⟨rfl,h⟩
theorem subO_z {x y:Option Rat} {d:Rat} (h:subO x y=some d) (hd:d=0):x=y:=by
 cases x with
 | none=>cases h
 | some p =>
  cases y with
  | none=>cases h
  | some q =>
   have e:=capR_some (show capR (p+-q)=some d from h)
   rw [hd,<-Rat.sub_eq_add_neg] at e
   have:p=q:=by
    have h2:p - q+q=0+q:=by rw [<-e]
    rwa [Rat.sub_add_cancel,Rat.zero_add] at h2
   rw [this]
theorem mulO_some {x:Option Rat} {u:Rat} (h:mulO x x=some u):∃ d,x=some d/\u=d * d:=by
 cases x with
 | none=>cases h
 | some d=>exact ⟨d,rfl,capR_some h⟩
theorem sqD_zero {a b:DP} (ha:okPt a=true) (hb:okPt b=true) (h:sqD a b=some 0):a=b:=by
 obtain ⟨a1,a2⟩:=Bool.and_eq_true_iff.1 (show (okR a.1 && okR a.2)=true from ha)
 obtain ⟨b1,b2⟩:=Bool.and_eq_true_iff.1 (show (okR b.1 && okR b.2)=true from hb)
 unfold sqD at h
 cases hu:mulO (subO (rdO a.1) (rdO b.1)) (subO (rdO a.1) (rdO b.1)) with
 | none=>rw [hu] at h; cases h
 | some u =>
  cases hv:mulO (subO (rdO a.2) (rdO b.2)) (subO (rdO a.2) (rdO b.2)) with
  | none=>rw [hu,hv] at h; cases h
  | some v =>
   rw [hu,hv] at h
   have hz:=capR_some (show capR (u+v)=some 0 from h)
   obtain ⟨d,hd,e1⟩:=mulO_some hu
   obtain ⟨e,he,e2⟩:=mulO_some hv
   obtain ⟨z1,z2⟩:=rat_sum_z (e1 ▸ rat_sq_nn d) (e2 ▸ rat_sq_nn e) hz.symm
   have d0:d=0:=by rw [e1] at z1; exact (Rat.mul_eq_zero.1 z1).elim id id
   have e0:e=0:=by rw [e2] at z2; exact (Rat.mul_eq_zero.1 z2).elim id id
   have q1:=subO_z hd d0
   have q2:=subO_z he e0
   refine Prod.ext ?_ ?_
   ·rw [<-okR_oD a1,<-okR_oD b1,q1]
   ·rw [<-okR_oD a2,<-okR_oD b2,q2]
theorem sgnO_zero {x:Option Rat} (h:sgnO x=0):x=none\/x=some 0:=by
 cases x with
 | none=>exact .inl rfl
 | some p =>
  refine .inr ?_
  have h:cmpQ p 0=0:=h
  unfold cmpQ at h
  by_cases h1:p < 0
  ·simp [h1] at h
  ·by_cases h2:0 < p
   ·simp [h1,h2] at h
   ·rw [Rat.le_antisymm (Rat.not_lt.1 h2) (Rat.not_lt.1 h1)]
theorem segD_none {p a b:DP} (ha:okPt a=true) (h:sqD a b=none):segD p a b=none:=by
 have hne:eqb a b=false:=by
  refine eqb_false fun e=>?_
  subst e
  rw [sqD_self ha] at h; cases h
 unfold segD
 rw [hne,if_neg (by decide)]
 have ht:tD p a b=none:=by unfold tD; rw [h,divO_none_r]; rfl
 rw [ht]
 unfold sqD nearD
 rw [mulO_none_l,show addO (rdO a.1) none=none by cases rdO a.1<;>rfl,rdO_oD okO_none]
 rw [show subO (rdO p.1) none=none by cases rdO p.1<;>rfl]
 rfl
theorem addO_z {x:Option Rat} (h:okO x):addO zeroO x=x:=by
 cases x with
 | none=>rfl
 | some p =>
  show capR (((0:Int):Rat)+p)=some p
  rw [show (((0:Int):Rat)+p)=p from Rat.zero_add p]
  exact capR_s (h p rfl)
set_option maxRecDepth 100000 in
set_option maxHeartbeats 1000000 in
theorem SquareToSegmentS_fn (p a b:DP) (ha:okPt a=true) (hb:okPt b=true):Fn Tryz.prog 161 [⟨tPoint,p⟩,⟨tPoint,a⟩,⟨tPoint,b⟩] true [⟨tRat,oD (segD p a b)⟩]:=by
 have c1:=SquareDistanceS_fn a b
 have c2:=specRatSign_fn (oD (sqD a b))
 rw [rdO_oD (okO_sqD _ _)] at c2
 by_cases hz:sgnO (sqD a b)=0
 ·have d1:=decide_eq_true hz
  have c3:=specRatMul_fn (oD (sqD a b)) (oD (sqD a b))
  rw [rdO_oD (okO_sqD _ _)] at c3
  have c4:=SquareDistanceS_fn p a
  have c5:=specRatAdd_fn (oD (mulO (sqD a b) (sqD a b))) (oD (sqD p a))
  rw [rdO_oD (okO_mul _ _),rdO_oD (okO_sqD _ _)] at c5
  have e:addO (mulO (sqD a b) (sqD a b)) (sqD p a)=segD p a b:=by
   rcases sgnO_zero hz with h|h
   ·rw [segD_none ha h,h]; rfl
   ·have hab:=sqD_zero ha hb h
    subst hab
    have m:mulO (some 0) (some 0)=zeroO:=by
     show capR ((0:Rat) * 0)=_
     rw [Rat.zero_mul,cap_z]
    unfold segD
    rw [h,m,addO_z (okO_sqD _ _),eqb_true rfl,if_pos rfl]
  rw [e] at c5
  refine fn_enter tabOK mixes Tryz.func161 rfl rfl _ Tryz.ntmps161 _ Tryz.results161 (by simp) fun hwf=>?_
  try simp (maxSteps:=9^9) only[go_sem]
  repeat refine And.intro (by first|omega|(constructor<;>omega)|kernel_rfl) ?_
  refine CallW.mk (c1) ?_
  try simp (maxSteps:=9^9) only[go_sem]
  repeat refine And.intro (by first|omega|(constructor<;>omega)|kernel_rfl) ?_
  refine CallW.mk (c2) ?_
  try simp (maxSteps:=9^9) only[go_sem]
  try simp (maxSteps:=9^9) only[go_sem,d1]
  repeat refine And.intro (by first|omega|(constructor<;>omega)|kernel_rfl) ?_
  refine CallW.mk (c3) ?_
  try simp (maxSteps:=9^9) only[go_sem]
  repeat refine And.intro (by first|omega|(constructor<;>omega)|kernel_rfl) ?_
  refine CallW.mk (c4) ?_
  try simp (maxSteps:=9^9) only[go_sem]
  repeat refine And.intro (by first|omega|(constructor<;>omega)|kernel_rfl) ?_
  refine CallW.mk (c5) ?_
  try simp (maxSteps:=9^9) only[go_sem]
  all_goals repeat refine And.intro (by first|omega|(constructor<;>omega)|kernel_rfl) ?_
  all_goals first|kernel_rfl|omega|rfl
 ·have d1:=decide_eq_false hz
  have hne:eqb a b=false:=by
   refine eqb_false fun e=>?_
   subst e
   rw [sqD_self ha] at hz
   exact hz (cmpQ_self _)
  have c3:=InnerProductS_fn a b p
  rw [inD_comm] at c3
  have c4:=specRatDiv_fn (oD (inD a p b)) (oD (sqD a b))
  rw [rdO_oD (okO_inD _ _ _),rdO_oD (okO_sqD _ _)] at c4
  have c5:=RatFromInt_fn 0
  have c6:=RatFromInt_fn 1
  rw [ratI_z] at c5
  rw [ratI_1] at c6
  have c7:=specRatMax_fn (oD (divO (inD a p b) (sqD a b))) (oD zeroO)
  rw [rdO_oD (okO_div _ _),rdO_oD okO_zero,maxO_comm] at c7
  have c8:=specRatMin_fn (oD (maxO zeroO (divO (inD a p b) (sqD a b)))) (oD oneO)
  rw [rdO_oD (okO_max okO_zero (okO_div _ _)),rdO_oD okO_one,minO_comm] at c8
  have e7:minO oneO (maxO zeroO (divO (inD a p b) (sqD a b)))=tD p a b:=rfl
  rw [e7] at c8
  have c9:=specRatSub_fn b.1 a.1
  have c10:=specRatMul_fn (oD (tD p a b)) (oD (subO (rdO b.1) (rdO a.1)))
  rw [rdO_oD (okO_tD _ _ _),rdO_oD (okO_sub _ _)] at c10
  have c11:=specRatAdd_fn a.1 (oD (mulO (tD p a b) (subO (rdO b.1) (rdO a.1))))
  rw [rdO_oD (okO_mul _ _)] at c11
  have c12:=specRatSub_fn b.2 a.2
  have c13:=specRatMul_fn (oD (tD p a b)) (oD (subO (rdO b.2) (rdO a.2)))
  rw [rdO_oD (okO_tD _ _ _),rdO_oD (okO_sub _ _)] at c13
  have c14:=specRatAdd_fn a.2 (oD (mulO (tD p a b) (subO (rdO b.2) (rdO a.2))))
  rw [rdO_oD (okO_mul _ _)] at c14
  have c15:=SquareDistanceS_fn p (nearD a b (tD p a b))
  unfold segD
  rw [hne,if_neg (by decide)]
  unfold nearD at c15 ⊢
  generalize tD p a b=t at c8 c10 c11 c13 c14 c15 ⊢
  generalize divO (inD a p b) (sqD a b)=dv at c4 c7 c8
  refine fn_enter tabOK mixes Tryz.func161 rfl rfl _ Tryz.ntmps161 _ Tryz.results161 (by simp) fun hwf=>?_
  try simp (maxSteps:=9^9) only[go_sem]
  repeat refine And.intro (by first|omega|(constructor<;>omega)|kernel_rfl) ?_
  refine CallW.mk (c1) ?_
  try simp (maxSteps:=9^9) only[go_sem]
  repeat refine And.intro (by first|omega|(constructor<;>omega)|kernel_rfl) ?_
  refine CallW.mk (c2) ?_
  try simp (maxSteps:=9^9) only[go_sem]
  try simp (maxSteps:=9^9) only[go_sem,d1]
  repeat refine And.intro (by first|omega|(constructor<;>omega)|kernel_rfl) ?_
  refine CallW.mk (c3) ?_
  try simp (maxSteps:=9^9) only[go_sem]
  repeat refine And.intro (by first|omega|(constructor<;>omega)|kernel_rfl) ?_
  refine CallW.mk (c4) ?_
  try simp (maxSteps:=9^9) only[go_sem]
  repeat refine And.intro (by first|omega|(constructor<;>omega)|kernel_rfl) ?_
  refine CallW.mk (c5) ?_
  try simp (maxSteps:=9^9) only[go_sem]
  repeat refine And.intro (by first|omega|(constructor<;>omega)|kernel_rfl) ?_
  refine CallW.mk (c7) ?_
  try simp (maxSteps:=9^9) only[go_sem]
  repeat refine And.intro (by first|omega|(constructor<;>omega)|kernel_rfl) ?_
  refine CallW.mk (c6) ?_
  try simp (maxSteps:=9^9) only[go_sem]
  repeat refine And.intro (by first|omega|(constructor<;>omega)|kernel_rfl) ?_
  refine CallW.mk (c8) ?_
  try simp (maxSteps:=9^9) only[go_sem]
  repeat refine And.intro (by first|omega|(constructor<;>omega)|kernel_rfl) ?_
  refine CallW.mk (c9) ?_
  try simp (maxSteps:=9^9) only[go_sem]
  repeat refine And.intro (by first|omega|(constructor<;>omega)|kernel_rfl) ?_
  refine CallW.mk (c10) ?_
  try simp (maxSteps:=9^9) only[go_sem]
  repeat refine And.intro (by first|omega|(constructor<;>omega)|kernel_rfl) ?_
  refine CallW.mk (c11) ?_
  try simp (maxSteps:=9^9) only[go_sem]
  repeat refine And.intro (by first|omega|(constructor<;>omega)|kernel_rfl) ?_
  refine CallW.mk (c12) ?_
  try simp (maxSteps:=9^9) only[go_sem]
  repeat refine And.intro (by first|omega|(constructor<;>omega)|kernel_rfl) ?_
  refine CallW.mk (c13) ?_
  try simp (maxSteps:=9^9) only[go_sem]
  repeat refine And.intro (by first|omega|(constructor<;>omega)|kernel_rfl) ?_
  refine CallW.mk (c14) ?_
  try simp (maxSteps:=9^9) only[go_sem]
  repeat refine And.intro (by first|omega|(constructor<;>omega)|kernel_rfl) ?_
  refine CallW.mk (c15) ?_
  try simp (maxSteps:=9^9) only[go_sem]
  all_goals repeat refine And.intro (by first|omega|(constructor<;>omega)|kernel_rfl) ?_
  all_goals first|kernel_rfl|omega|rfl
theorem cmpQ_le {p q:Rat}:cmpQ p q<=0 ↔ p<=q:=by
 unfold cmpQ
 by_cases h1:p < q
 ·simp [h1,Rat.le_of_lt h1]
 ·by_cases h2:q < p
  ·simp [h1,h2]; exact Rat.not_le.2 h2
  ·simp [h1,h2]; exact Rat.not_lt.1 h2
theorem minO_le {p q:Rat} (h:p<=q):minO (some p) (some q)=some p:=by
 show (if cmpQ p q<=0 then some p else some q)=_
 rw [if_pos (cmpQ_le.2 h)]
theorem minO_ge {p q:Rat} (h:q<=p):minO (some p) (some q)=some q:=by rw [minO_comm,minO_le h]
theorem minO_self (x:Option Rat):minO x x=x:=by
 cases x with
 | none=>rfl
 | some p=>exact minO_le Rat.le_refl
theorem minO_nr (x:Option Rat):minO x none=none:=by cases x<;>rfl
theorem minO_assoc (x y z:Option Rat):minO (minO x y) z=minO x (minO y z):=by
 cases x with
 | none=>cases y<;>cases z<;>rfl
 | some p =>
  cases y with
  | none=>cases z<;>rfl
  | some q =>
   cases z with
   | none=>rw [minO_nr,minO_nr,minO_nr]
   | some r =>
    rcases Rat.le_total (a:=p) (b:=q) with h1|h1
    ·rw [minO_le h1]
     rcases Rat.le_total (a:=q) (b:=r) with h2|h2
     ·rw [minO_le h2,minO_le h1,minO_le (Rat.le_trans h1 h2)]
     ·rw [minO_ge h2]
    ·rw [minO_ge h1]
     rcases Rat.le_total (a:=q) (b:=r) with h2|h2
     ·rw [minO_le h2,minO_ge h1]
     ·rw [minO_ge h2,minO_ge (Rat.le_trans h2 h1)]
noncomputable def edO (l:List DV) (p:DP) (i:Nat):Option Rat:=segD p (ptV (nth (t:=tVec) l i)) (ptV (nth (t:=tVec) l (nxt l.length i).toNat))
noncomputable def leS (l:List DV) (p:DP):Nat->Option Rat
 | 0=>edO l p 0
 | i+1=>minO (leS l p i) (edO l p i)
noncomputable def leI (l:List DV) (p:DP):Nat->Option Rat
 | 0=>edO l p (l.length - 1)
 | i+1=>minO (leI l p i) (edO l p i)
theorem leI_S (l:List DV) (p:DP):∀ i,leI l p (i+1)=minO (edO l p (l.length - 1)) (leS l p (i+1))
 | 0=>by show minO (edO l p (l.length - 1)) (edO l p 0)=minO _ (minO (edO l p 0) (edO l p 0)); rw [minO_self]
 | i+1=>by
  show minO (leI l p (i+1)) _=minO _ (minO (leS l p (i+1)) _)
  rw [leI_S l p i,minO_assoc]
theorem leI_all {l:List DV} (p:DP) (h:2<=l.length):leI l p (l.length - 1)=leS l p l.length:=by
 obtain ⟨n,hn⟩:∃ n,l.length=n+2:=⟨l.length - 2,by omega⟩
 have:=leI_S l p n
 rw [show l.length - 1=n+1 by omega,this,hn]
 show minO _ _=minO (leS l p (n+1)) (edO l p (n+1))
 rw [minO_comm,show n+2 - 1=n+1 by omega]
theorem okO_edO (l:List DV) (p:DP) (i:Nat):okO (edO l p i):=okO_segD _ _ _
theorem okO_leS (l:List DV) (p:DP):∀ i,okO (leS l p i)
 | 0=>okO_edO _ _ _
 | i+1=>okO_min (okO_leS l p i) (okO_edO _ _ _)
theorem okO_leI (l:List DV) (p:DP):∀ i,okO (leI l p i)
 | 0=>okO_edO _ _ _
 | i+1=>okO_min (okO_leI l p i) (okO_edO _ _ _)
noncomputable def tpD (l:List DV) (p:DP):Option Rat:=if 0<=cntI l p l.length then zeroO else leS l p l.length
theorem okO_tpD (l:List DV) (p:DP):okO (tpD l p):=by
 unfold tpD; split
 ·exact okO_zero
 ·exact okO_leS _ _ _
set_option maxRecDepth 100000 in
set_option maxHeartbeats 1000000 in
theorem toPolygon_fn (l:List DV) (p:DP) (hl:polyP l) (hp:okPt p=true):Fn Tryz.prog 144 [⟨.slice tVec,l⟩,⟨tPoint,p⟩] false [⟨tRat,oD (tpD l p)⟩]:=by
 have h3:3<=l.length:=by have:=hl.1.1; omega
 have hn:l.length<=1048576:=by have:=hl.1.2; omega
 have c1:=contains_fn l p hl.2.1 hn hp
 have c3:=pointsOf_fn l hn
 have hml:(l.map ptV).length=l.length:=List.length_map ..
 have ptok:∀ i,i < l.length->okPt (ptV (nth (t:=tVec) l i))=true:=fun i hi=>okPt_ptV (hl.2.1 _ (nth_mem hi))
 by_cases h0:0<=cntI l p l.length
 ·have d1:=decide_eq_true (p:=cntI l p l.length ≥ 0) h0
  have c2:=ratInt_fn 0
  rw [ratI_z] at c2
  rw [show tpD l p=zeroO from if_pos h0]
  refine fn_enter tabOK mixes Tryz.func144 rfl rfl _ Tryz.ntmps144 _ Tryz.results144 (by simp) fun hwf=>?_
  try simp (maxSteps:=9^9) only[go_sem]
  repeat refine And.intro (by first|omega|(constructor<;>omega)|kernel_rfl) ?_
  refine CallW.mk (c1) ?_
  try simp (maxSteps:=9^9) only[go_sem]
  try simp (maxSteps:=9^9) only[go_sem,d1]
  repeat refine And.intro (by first|omega|(constructor<;>omega)|kernel_rfl) ?_
  refine CallW.mk (c2) ?_
  try simp (maxSteps:=9^9) only[go_sem]
  all_goals repeat refine And.intro (by first|omega|(constructor<;>omega)|kernel_rfl) ?_
  all_goals first|kernel_rfl|omega|rfl
 ·have d1:=decide_eq_false (p:=cntI l p l.length ≥ 0) h0
  rw [show tpD l p=leS l p l.length from if_neg h0,<-leI_all p (by omega)]
  have s0:=toSegment_fn p (ptV (nth (t:=tVec) l (l.length - 1))) (ptV (nth (t:=tVec) l 0)) (gP_ok hp) (gP_ok (ptok _ (by omega))) (gP_ok (ptok _ (by omega)))
  have e0:segD p (ptV (nth (t:=tVec) l (l.length - 1))) (ptV (nth (t:=tVec) l 0))=leI l p 0:=by
   show _=edO l p (l.length - 1)
   unfold edO
   rw [nxt_end (by omega)]
  rw [e0,<-nth_ptV (by omega),<-nth_ptV (by omega)] at s0
  have ei:((l.length:Int) - 1).toNat=l.length - 1:=by omega
  rw [<-ei] at s0
  refine fn_enter tabOK mixes Tryz.func144 rfl rfl _ Tryz.ntmps144 _ Tryz.results144 (by simp) fun hwf=>?_
  try simp (maxSteps:=9^9) only[go_sem]
  repeat refine And.intro (by first|omega|(constructor<;>omega)|kernel_rfl) ?_
  refine CallW.mk (c1) ?_
  try simp (maxSteps:=9^9) only[go_sem]
  try simp (maxSteps:=9^9) only[go_sem,d1]
  repeat refine And.intro (by first|omega|(constructor<;>omega)|kernel_rfl) ?_
  refine CallW.mk (c3) ?_
  try simp (maxSteps:=9^9) only[go_sem]
  try simp (maxSteps:=9^9) only[go_sem,hml]
  repeat refine And.intro (by first|omega|(constructor<;>omega)|kernel_rfl) ?_
  refine CallW.mk (s0) ?_
  try simp (maxSteps:=9^9) only[go_sem]
  repeat refine And.intro (by first|omega|(constructor<;>omega)|kernel_rfl) ?_
  refine LoopG.intro _ _ _ (fun i:Nat=>⟨[(3,.ptr 0 0),(4,.ptr 1 0),(5,.sl tPoint (l.map ptV)),(6,.ptr 2 0),(7,.sc (.int .i64 (i+1)))],[(2,.box (cel tRat (oD (leI l p i)))),(1,.box (cel tRat (oD none))),(0,.box (cel tPoint p))]⟩) (fun i=>i+1<=l.length) (fun i=>l.length - i) 0 ?_ (by omega) ?_
  ·refine Wk.mk [(2,5)] ?_
   try simp (maxSteps:=9^9) only[go_sem]
   try (and_intros<;>first|rfl|omega|exact ⟨_,rfl⟩)
  ·rintro i hi
   try simp (maxSteps:=9^9) only[go_sem,hml]
   refine CondW_dec (fun hA=>?_) (fun hA=>?_)
   ·have hlt:i+1 < l.length:=by omega
    have s1:=toSegment_fn p (ptV (nth (t:=tVec) l i)) (ptV (nth (t:=tVec) l (i+1))) (gP_ok hp) (gP_ok (ptok _ (by omega))) (gP_ok (ptok _ (by omega)))
    have e1:segD p (ptV (nth (t:=tVec) l i)) (ptV (nth (t:=tVec) l (i+1)))=edO l p i:=by
     unfold edO
     rw [nxt_lt (by omega)]
    rw [e1,<-nth_ptV (by omega),<-nth_ptV (by omega)] at s1
    have s2:=ratMin_fn (leI l p i) (edO l p i) (okO_leI _ _ _) (okO_edO _ _ _)
    have hst:leI l p (i+1)=minO (leI l p i) (edO l p i):=rfl
    have q1:((i:Int)+1 - 1).toNat=i:=by omega
    have q2:((i:Int)+1).toNat=i+1:=by omega
    try simp (maxSteps:=9^9) only[go_sem]
    repeat refine And.intro (by first|omega|(constructor<;>omega)|kernel_rfl) ?_
    rw [q1,q2]
    repeat refine And.intro (by first|omega|(constructor<;>omega)|kernel_rfl) ?_
    refine CallW.mk (s1) ?_
    try simp (maxSteps:=9^9) only[go_sem]
    repeat refine And.intro (by first|omega|(constructor<;>omega)|kernel_rfl) ?_
    refine CallW.mk (s2) ?_
    try simp (maxSteps:=9^9) only[go_sem]
    repeat refine And.intro (by first|omega|(constructor<;>omega)|kernel_rfl) ?_
    refine LoopK.mk (i+1) ?_ (by omega) (by omega)
    rw [hst]
    refine Wk.mk [] ?_
    try simp (maxSteps:=9^9) only[go_sem]
    try (and_intros<;>first|rfl|omega|exact ⟨_,rfl⟩)
   ·rw [show l.length - 1=i by omega]
    try simp (maxSteps:=9^9) only[go_sem]
    all_goals repeat refine And.intro (by first|omega|(constructor<;>omega)|kernel_rfl) ?_
    all_goals first|kernel_rfl|omega|rfl
end Go.Proofs.YtffdhjnbppagjaaGreat.DW

namespace Go.Proofs.YtffdhjnbppagjaaGreat.DW
open Go.RowKit
noncomputable def stpD (l:List DV) (p:DP):Option Rat:=if okPt p then tpD l p else none
theorem okO_stpD (l:List DV) (p:DP):okO (stpD l p):=by
 unfold stpD; split
 ·exact okO_tpD _ _
 ·exact okO_none
set_option maxRecDepth 100000 in
set_option maxHeartbeats 1000000 in
theorem SquareToPolygonS_fn (l:List DV) (p:DP) (hl:polyP l):Fn Tryz.prog 160 [⟨.slice tVec,l⟩,⟨tPoint,p⟩] false [⟨tRat,oD (stpD l p)⟩]:=by
 have h3:3<=l.length:=by have:=hl.1.1; omega
 have hn:l.length<=1048576:=by have:=hl.1.2; omega
 have c0:=specIsPolygon_fn l
 rw [polyB_t hl] at c0
 have c1:=specIsValidPoint_fn p
 have c2:=ContainsS_fn l p hl
 have ptok:∀ i,i < l.length->okPt (ptV (nth (t:=tVec) l i))=true:=fun i hi=>okPt_ptV (hl.2.1 _ (nth_mem hi))
 unfold stpD
 cases h:okPt p<;>rw [h] at c1
 ·rw [if_neg (by decide)]
  refine fn_enter tabOK mixes Tryz.func160 rfl rfl _ Tryz.ntmps160 _ Tryz.results160 (by simp) fun hwf=>?_
  try simp (maxSteps:=9^9) only[go_sem]
  repeat refine And.intro (by first|omega|(constructor<;>omega)|kernel_rfl) ?_
  refine CallW.mk (c0) ?_
  try simp (maxSteps:=9^9) only[go_sem]
  repeat refine And.intro (by first|omega|(constructor<;>omega)|kernel_rfl) ?_
  refine CallW.mk (c1) ?_
  try simp (maxSteps:=9^9) only[go_sem]
  all_goals repeat refine And.intro (by first|omega|(constructor<;>omega)|kernel_rfl) ?_
  all_goals first|kernel_rfl|omega|rfl
 ·rw [if_pos rfl]
  have ec:cpD l p=cntI l p l.length:=by unfold cpD; rw [h,if_pos rfl]
  rw [ec] at c2
  by_cases h0:0<=cntI l p l.length
  ·have d1:=decide_eq_true (p:=cntI l p l.length ≥ 0) h0
   have c3:=RatFromInt_fn 0
   rw [ratI_z] at c3
   rw [show tpD l p=zeroO from if_pos h0]
   refine fn_enter tabOK mixes Tryz.func160 rfl rfl _ Tryz.ntmps160 _ Tryz.results160 (by simp) fun hwf=>?_
   try simp (maxSteps:=9^9) only[go_sem]
   repeat refine And.intro (by first|omega|(constructor<;>omega)|kernel_rfl) ?_
   refine CallW.mk (c0) ?_
   try simp (maxSteps:=9^9) only[go_sem]
   repeat refine And.intro (by first|omega|(constructor<;>omega)|kernel_rfl) ?_
   refine CallW.mk (c1) ?_
   try simp (maxSteps:=9^9) only[go_sem]
   repeat refine And.intro (by first|omega|(constructor<;>omega)|kernel_rfl) ?_
   refine CallW.mk (c2) ?_
   try simp (maxSteps:=9^9) only[go_sem]
   try simp (maxSteps:=9^9) only[go_sem,d1]
   repeat refine And.intro (by first|omega|(constructor<;>omega)|kernel_rfl) ?_
   refine CallW.mk (c3) ?_
   try simp (maxSteps:=9^9) only[go_sem]
   all_goals repeat refine And.intro (by first|omega|(constructor<;>omega)|kernel_rfl) ?_
   all_goals first|kernel_rfl|omega|rfl
  ·have d1:=decide_eq_false (p:=cntI l p l.length ≥ 0) h0
   rw [show tpD l p=leS l p l.length from if_neg h0]
   have v0:=PointOfS_fn (nth (t:=tVec) l 0)
   have v1:=PointOfS_fn (nth (t:=tVec) l 1)
   have s0:=SquareToSegmentS_fn p (ptV (nth (t:=tVec) l 0)) (ptV (nth (t:=tVec) l 1)) (ptok _ (by omega)) (ptok _ (by omega))
   have e0:segD p (ptV (nth (t:=tVec) l 0)) (ptV (nth (t:=tVec) l 1))=leS l p 0:=by
    show _=edO l p 0
    unfold edO
    rw [nxt_lt (by omega)]
   rw [e0] at s0
   refine fn_enter tabOK mixes Tryz.func160 rfl rfl _ Tryz.ntmps160 _ Tryz.results160 (by simp) fun hwf=>?_
   try simp (maxSteps:=9^9) only[go_sem]
   repeat refine And.intro (by first|omega|(constructor<;>omega)|kernel_rfl) ?_
   refine CallW.mk (c0) ?_
   try simp (maxSteps:=9^9) only[go_sem]
   repeat refine And.intro (by first|omega|(constructor<;>omega)|kernel_rfl) ?_
   refine CallW.mk (c1) ?_
   try simp (maxSteps:=9^9) only[go_sem]
   repeat refine And.intro (by first|omega|(constructor<;>omega)|kernel_rfl) ?_
   refine CallW.mk (c2) ?_
   try simp (maxSteps:=9^9) only[go_sem]
   try simp (maxSteps:=9^9) only[go_sem,d1]
   repeat refine And.intro (by first|omega|(constructor<;>omega)|kernel_rfl) ?_
   refine CallW.mk (v0) ?_
   try simp (maxSteps:=9^9) only[go_sem]
   repeat refine And.intro (by first|omega|(constructor<;>omega)|kernel_rfl) ?_
   refine CallW.mk (v1) ?_
   try simp (maxSteps:=9^9) only[go_sem]
   repeat refine And.intro (by first|omega|(constructor<;>omega)|kernel_rfl) ?_
   refine CallW.mk (s0) ?_
   try simp (maxSteps:=9^9) only[go_sem]
   repeat refine And.intro (by first|omega|(constructor<;>omega)|kernel_rfl) ?_
   refine LoopG.intro _ _ _ (fun i:Nat=>⟨[(0,.sl tVec l),(3,.ptr 0 0),(4,.ptr 1 0),(5,.ptr 2 0),(32,.sl tVec l),(33,.sc (.int .i64 l.length)),(34,.sc (.int .i64 i))],[(2,.box (cel tRat (oD (leS l p i)))),(1,.box (cel tRat (oD none))),(0,.box (cel tPoint p))]⟩) (fun i=>i<=l.length) (fun i=>l.length - i) 0 ?_ (Nat.zero_le _) ?_
   ·refine Wk.mk [(2,12)] ?_
    try simp (maxSteps:=9^9) only[go_sem]
    try (and_intros<;>first|rfl|omega|exact ⟨_,rfl⟩)
   ·rintro i hi
    try simp (maxSteps:=9^9) only[go_sem]
    refine CondW_dec (fun hA=>?_) (fun hA=>?_)
    ·have hlt:i < l.length:=by omega
     have hr:=nxt_rng (n:=l.length) (i:=i) (by omega)
     have hr2:(nxt l.length i).toNat < l.length:=by omega
     have c3:=PointOfS_fn (nth (t:=tVec) l i)
     have c4:=PointOfS_fn (nth (t:=tVec) l (nxt l.length i).toNat)
     have s1:=SquareToSegmentS_fn p (ptV (nth (t:=tVec) l i)) (ptV (nth (t:=tVec) l (nxt l.length i).toNat)) (ptok _ (by omega)) (ptok _ (by omega))
     have e1:segD p (ptV (nth (t:=tVec) l i)) (ptV (nth (t:=tVec) l (nxt l.length i).toNat))=edO l p i:=rfl
     rw [e1] at s1
     have s2:=specRatMin_fn (oD (leS l p i)) (oD (edO l p i))
     rw [rdO_oD (okO_leS _ _ _),rdO_oD (okO_edO _ _ _)] at s2
     have hst:leS l p (i+1)=minO (leS l p i) (edO l p i):=rfl
     unfold nxt at hr hr2 c4 s1
     try simp (maxSteps:=9^9) only[go_sem]
     repeat refine And.intro (by first|omega|(constructor<;>omega)|kernel_rfl) ?_
     refine CallW.mk (c3) ?_
     try simp (maxSteps:=9^9) only[go_sem]
     repeat refine And.intro (by first|omega|(constructor<;>omega)|kernel_rfl) ?_
     refine RemW.pos (by omega) (by omega) ?_
     try simp (maxSteps:=9^9) only[go_sem]
     repeat refine And.intro (by first|omega|(constructor<;>omega)|kernel_rfl) ?_
     refine CallW.mk (c4) ?_
     try simp (maxSteps:=9^9) only[go_sem]
     repeat refine And.intro (by first|omega|(constructor<;>omega)|kernel_rfl) ?_
     refine CallW.mk (s1) ?_
     try simp (maxSteps:=9^9) only[go_sem]
     repeat refine And.intro (by first|omega|(constructor<;>omega)|kernel_rfl) ?_
     refine CallW.mk (s2) ?_
     try simp (maxSteps:=9^9) only[go_sem]
     repeat refine And.intro (by first|omega|(constructor<;>omega)|kernel_rfl) ?_
     refine LoopK.mk (i+1) ?_ (by omega) (by omega)
     rw [hst]
     refine Wk.mk [] ?_
     try simp (maxSteps:=9^9) only[go_sem]
     try (and_intros<;>first|rfl|omega|exact ⟨_,rfl⟩)
    ·rw [show l.length=i by omega]
     try simp (maxSteps:=9^9) only[go_sem]
     all_goals repeat refine And.intro (by first|omega|(constructor<;>omega)|kernel_rfl) ?_
     all_goals first|kernel_rfl|omega|rfl
noncomputable def discB (l:List DV) (p:DP) (n:Int):Bool:=(stpD l p).isSome && decide (cmpO (stpD l p) (some ((n:Int):Rat))<=0)
theorem DiscTouchesI_fn (l:List DV) (p:DP) (n:Int) (hl:polyP l) (hn:0<=n/\n<=1000000):Fn Tryz.prog 351 [⟨.slice tVec,l⟩,⟨tPoint,p⟩,⟨.int,n⟩] false [⟨.bool,discB l p n⟩]:=by
 have c0:=implIsPolygon_fn l
 rw [polyB_t hl] at c0
 have c1:=arePoints1_fn p
 have d1:=decide_eq_false (p:=n < 0) (by omega)
 unfold discB stpD
 cases h:okPt p<;>rw [h] at c1
 ·rw [if_neg (by decide)]
  refine fn_enter tabOK mixes Tryz.func351 rfl rfl _ Tryz.ntmps351 _ Tryz.results351 (by simp) fun hwf=>?_
  try simp (maxSteps:=9^9) only[go_sem]
  repeat refine And.intro (by first|omega|(constructor<;>omega)|kernel_rfl) ?_
  refine CallW.mk (c0) ?_
  try simp (maxSteps:=9^9) only[go_sem]
  repeat refine And.intro (by first|omega|(constructor<;>omega)|kernel_rfl) ?_
  refine CallW.mk (c1) ?_
  try simp (maxSteps:=9^9) only[go_sem]
  all_goals repeat refine And.intro (by first|omega|(constructor<;>omega)|kernel_rfl) ?_
  all_goals first|kernel_rfl|omega|rfl
 ·rw [if_pos rfl]
  have c2:=toPolygon_fn l p hl h
  have c3:=isGood_fn (tpD l p)
  have c4:=ratInt_fn n
  rw [show ratI n=oD (some ((n:Int):Rat)) from ratI_eq n] at c4
  have c5:=ratCmp_fn (tpD l p) (some ((n:Int):Rat)) (okO_tpD _ _) (ok_small (by omega))
  cases hs:(tpD l p).isSome<;>rw [hs] at c3
  ·refine fn_enter tabOK mixes Tryz.func351 rfl rfl _ Tryz.ntmps351 _ Tryz.results351 (by simp) fun hwf=>?_
   try simp (maxSteps:=9^9) only[go_sem]
   repeat refine And.intro (by first|omega|(constructor<;>omega)|kernel_rfl) ?_
   refine CallW.mk (c0) ?_
   try simp (maxSteps:=9^9) only[go_sem]
   repeat refine And.intro (by first|omega|(constructor<;>omega)|kernel_rfl) ?_
   refine CallW.mk (c1) ?_
   try simp (maxSteps:=9^9) only[go_sem]
   try simp (maxSteps:=9^9) only[go_sem,d1]
   repeat refine And.intro (by first|omega|(constructor<;>omega)|kernel_rfl) ?_
   refine CallW.mk (c2) ?_
   try simp (maxSteps:=9^9) only[go_sem]
   repeat refine And.intro (by first|omega|(constructor<;>omega)|kernel_rfl) ?_
   refine CallW.mk (c3) ?_
   try simp (maxSteps:=9^9) only[go_sem]
   all_goals repeat refine And.intro (by first|omega|(constructor<;>omega)|kernel_rfl) ?_
   all_goals first|kernel_rfl|omega|rfl
  ·refine fn_enter tabOK mixes Tryz.func351 rfl rfl _ Tryz.ntmps351 _ Tryz.results351 (by simp) fun hwf=>?_
   try simp (maxSteps:=9^9) only[go_sem]
   repeat refine And.intro (by first|omega|(constructor<;>omega)|kernel_rfl) ?_
   refine CallW.mk (c0) ?_
   try simp (maxSteps:=9^9) only[go_sem]
   repeat refine And.intro (by first|omega|(constructor<;>omega)|kernel_rfl) ?_
   refine CallW.mk (c1) ?_
   try simp (maxSteps:=9^9) only[go_sem]
   try simp (maxSteps:=9^9) only[go_sem,d1]
   repeat refine And.intro (by first|omega|(constructor<;>omega)|kernel_rfl) ?_
   refine CallW.mk (c2) ?_
   try simp (maxSteps:=9^9) only[go_sem]
   repeat refine And.intro (by first|omega|(constructor<;>omega)|kernel_rfl) ?_
   refine CallW.mk (c3) ?_
   try simp (maxSteps:=9^9) only[go_sem]
   repeat refine And.intro (by first|omega|(constructor<;>omega)|kernel_rfl) ?_
   refine CallW.mk (c4) ?_
   try simp (maxSteps:=9^9) only[go_sem]
   repeat refine And.intro (by first|omega|(constructor<;>omega)|kernel_rfl) ?_
   refine CallW.mk (c5) ?_
   try simp (maxSteps:=9^9) only[go_sem]
   all_goals repeat refine And.intro (by first|omega|(constructor<;>omega)|kernel_rfl) ?_
   all_goals first|kernel_rfl|omega|rfl
theorem DiscTouchesS_fn (l:List DV) (p:DP) (n:Int) (hl:polyP l) (hn:0<=n/\n<=1000000):Fn Tryz.prog 348 [⟨.slice tVec,l⟩,⟨tPoint,p⟩,⟨.int,n⟩] false [⟨.bool,discB l p n⟩]:=by
 have d1:=decide_eq_true (p:=n ≥ 0) hn.1
 have c2:=SquareToPolygonS_fn l p hl
 have c3:=specRatOk_fn (oD (stpD l p))
 have e3:okR (oD (stpD l p))=(stpD l p).isSome:=by unfold okR; rw [rdO_oD (okO_stpD _ _)]
 rw [e3] at c3
 have c4:=RatFromInt_fn n
 rw [show ratI n=oD (some ((n:Int):Rat)) from ratI_eq n] at c4
 have c5:=specRatCmp_fn (oD (stpD l p)) (oD (some ((n:Int):Rat)))
 rw [rdO_oD (okO_stpD _ _),rdO_oD (ok_small (by omega))] at c5
 unfold discB
 cases hs:(stpD l p).isSome<;>rw [hs] at c3
 ·refine fn_enter tabOK mixes Tryz.func348 rfl rfl _ Tryz.ntmps348 _ Tryz.results348 (by simp) fun hwf=>?_
  try simp (maxSteps:=9^9) only[go_sem]
  repeat refine And.intro (by first|omega|(constructor<;>omega)|kernel_rfl) ?_
  refine CallW.mk (c2) ?_
  try simp (maxSteps:=9^9) only[go_sem]
  repeat refine And.intro (by first|omega|(constructor<;>omega)|kernel_rfl) ?_
  refine CallW.mk (c3) ?_
  try simp (maxSteps:=9^9) only[go_sem]
  all_goals repeat refine And.intro (by first|omega|(constructor<;>omega)|kernel_rfl) ?_
  all_goals first|kernel_rfl|omega|rfl
 ·refine fn_enter tabOK mixes Tryz.func348 rfl rfl _ Tryz.ntmps348 _ Tryz.results348 (by simp) fun hwf=>?_
  try simp (maxSteps:=9^9) only[go_sem]
  repeat refine And.intro (by first|omega|(constructor<;>omega)|kernel_rfl) ?_
  refine CallW.mk (c2) ?_
  try simp (maxSteps:=9^9) only[go_sem]
  repeat refine And.intro (by first|omega|(constructor<;>omega)|kernel_rfl) ?_
  refine CallW.mk (c3) ?_
  try simp (maxSteps:=9^9) only[go_sem]
  try simp (maxSteps:=9^9) only[go_sem,d1]
  repeat refine And.intro (by first|omega|(constructor<;>omega)|kernel_rfl) ?_
  refine CallW.mk (c4) ?_
  try simp (maxSteps:=9^9) only[go_sem]
  repeat refine And.intro (by first|omega|(constructor<;>omega)|kernel_rfl) ?_
  refine CallW.mk (c5) ?_
  try simp (maxSteps:=9^9) only[go_sem]
  all_goals repeat refine And.intro (by first|omega|(constructor<;>omega)|kernel_rfl) ?_
  all_goals first|kernel_rfl|omega|rfl
def rchI (l:List DV):Nat->Int
 | 0=>0
 | i+1=>max (rchI l i) ((nth (t:=tVec) l i).1 * (nth (t:=tVec) l i).1+(nth (t:=tVec) l i).2 * (nth (t:=tVec) l i).2)
theorem sqI_le {k x:Int} (h1:-k<=x) (h2:x<=k):x * x<=k * k:=by
 rcases Int.le_total 0 x with h|h
 ·exact Int.mul_le_mul h2 h2 h (by omega)
 ·have:=Int.mul_le_mul (show -x<=k by omega) (show -x<=k by omega) (by omega) (by omega)
  rwa [Int.neg_mul_neg] at this
theorem l07Max_fn (a b:Int):Fn Tryz.prog 228 [⟨.int,a⟩,⟨.int,b⟩] false [⟨.int,max a b⟩]:=by
 by_cases h:a > b
 ·have d:=decide_eq_true h
  rw [Int.max_eq_left (by omega)]
  refine fn_enter tabOK mixes Tryz.func228 rfl rfl _ Tryz.ntmps228 _ Tryz.results228 (by simp) fun hwf=>?_
  try simp (maxSteps:=9^9) only[go_sem,d]
 ·have d:=decide_eq_false h
  rw [Int.max_eq_right (by omega)]
  refine fn_enter tabOK mixes Tryz.func228 rfl rfl _ Tryz.ntmps228 _ Tryz.results228 (by simp) fun hwf=>?_
  try simp (maxSteps:=9^9) only[go_sem,d]
theorem ReachSquareI_fn (l:List DV) (hl:polyP l):Fn Tryz.prog 349 [⟨.slice tVec,l⟩] false [⟨.int,rchI l l.length⟩]:=by
 have c0:=implIsPolygon_fn l
 rw [polyB_t hl] at c0
 have hn:=hl.1.2
 refine fn_enter tabOK mixes Tryz.func349 rfl rfl _ Tryz.ntmps349 _ Tryz.results349 (by simp) fun hwf=>?_
 try simp (maxSteps:=9^9) only[go_sem]
 repeat refine And.intro (by first|omega|(constructor<;>omega)|kernel_rfl) ?_
 refine CallW.mk (c0) ?_
 try simp (maxSteps:=9^9) only[go_sem]
 refine LoopG.intro _ _ _ (fun i:Nat=>⟨[(3,.sc (.int .i64 (rchI l i))),(9,.sl tVec l),(10,.sc (.int .i64 l.length)),(11,.sc (.int .i64 i))],[]⟩) (fun i=>i<=l.length) (fun i=>l.length - i) 0 ?_ (Nat.zero_le _) ?_
 ·refine Wk.mk [] ?_
  try simp (maxSteps:=9^9) only[go_sem]
  try (and_intros<;>first|rfl|omega|exact ⟨_,rfl⟩)
 ·rintro i hi
  try simp (maxSteps:=9^9) only[go_sem]
  refine CondW_dec (fun hA=>?_) (fun hA=>?_)
  ·have hlt:i < l.length:=by omega
   obtain ⟨b1,b2,b3,b4⟩:=okV_b (hl.2.1 _ (nth_mem hlt))
   have s1:=sqI_le b1 b2
   have s2:=sqI_le b3 b4
   have n1:=sq_nn (nth (t:=tVec) l i).1
   have n2:=sq_nn (nth (t:=tVec) l i).2
   have hst:rchI l (i+1)=max (rchI l i) ((nth (t:=tVec) l i).1 * (nth (t:=tVec) l i).1+(nth (t:=tVec) l i).2 * (nth (t:=tVec) l i).2):=rfl
   try simp (maxSteps:=9^9) only[go_sem]
   repeat refine And.intro (by first|omega|(constructor<;>omega)|kernel_rfl) ?_
   refine LoopK.mk (i+1) ?_ (by omega) (by omega)
   rw [hst]
   refine Wk.mk [] ?_
   try simp (maxSteps:=9^9) only[go_sem]
   try (and_intros<;>first|rfl|omega|exact ⟨_,rfl⟩)
  ·rw [show l.length=i by omega]
   try simp (maxSteps:=9^9) only[go_sem]
   all_goals repeat refine And.intro (by first|omega|(constructor<;>omega)|kernel_rfl) ?_
   all_goals first|kernel_rfl|omega|rfl
theorem ReachSquareS_fn (l:List DV) (hl:polyP l):Fn Tryz.prog 346 [⟨.slice tVec,l⟩] false [⟨.int,rchI l l.length⟩]:=by
 have c0:=specIsPolygon_fn l
 rw [polyB_t hl] at c0
 have hn:=hl.1.2
 refine fn_enter tabOK mixes Tryz.func346 rfl rfl _ Tryz.ntmps346 _ Tryz.results346 (by simp) fun hwf=>?_
 try simp (maxSteps:=9^9) only[go_sem]
 repeat refine And.intro (by first|omega|(constructor<;>omega)|kernel_rfl) ?_
 refine CallW.mk (c0) ?_
 try simp (maxSteps:=9^9) only[go_sem]
 refine LoopG.intro _ _ _ (fun i:Nat=>⟨[(3,.sc (.int .i64 (rchI l i))),(9,.sl tVec l),(10,.sc (.int .i64 l.length)),(11,.sc (.int .i64 i))],[]⟩) (fun i=>i<=l.length) (fun i=>l.length - i) 0 ?_ (Nat.zero_le _) ?_
 ·refine Wk.mk [] ?_
  try simp (maxSteps:=9^9) only[go_sem]
  try (and_intros<;>first|rfl|omega|exact ⟨_,rfl⟩)
 ·rintro i hi
  try simp (maxSteps:=9^9) only[go_sem]
  refine CondW_dec (fun hA=>?_) (fun hA=>?_)
  ·have hlt:i < l.length:=by omega
   obtain ⟨b1,b2,b3,b4⟩:=okV_b (hl.2.1 _ (nth_mem hlt))
   have s1:=sqI_le b1 b2
   have s2:=sqI_le b3 b4
   have n1:=sq_nn (nth (t:=tVec) l i).1
   have n2:=sq_nn (nth (t:=tVec) l i).2
   have hst:rchI l (i+1)=max (rchI l i) ((nth (t:=tVec) l i).1 * (nth (t:=tVec) l i).1+(nth (t:=tVec) l i).2 * (nth (t:=tVec) l i).2):=rfl
   have c1:=l07Max_fn (rchI l i) ((nth (t:=tVec) l i).1 * (nth (t:=tVec) l i).1+(nth (t:=tVec) l i).2 * (nth (t:=tVec) l i).2)
   try simp (maxSteps:=9^9) only[go_sem]
   repeat refine And.intro (by first|omega|(constructor<;>omega)|kernel_rfl) ?_
   refine CallW.mk (c1) ?_
   try simp (maxSteps:=9^9) only[go_sem]
   repeat refine And.intro (by first|omega|(constructor<;>omega)|kernel_rfl) ?_
   refine LoopK.mk (i+1) ?_ (by omega) (by omega)
   rw [hst]
   refine Wk.mk [] ?_
   try simp (maxSteps:=9^9) only[go_sem]
   try (and_intros<;>first|rfl|omega|exact ⟨_,rfl⟩)
  ·rw [show l.length=i by omega]
   try simp (maxSteps:=9^9) only[go_sem]
   all_goals repeat refine And.intro (by first|omega|(constructor<;>omega)|kernel_rfl) ?_
   all_goals first|kernel_rfl|omega|rfl
end Go.Proofs.YtffdhjnbppagjaaGreat.DW

namespace Go.Proofs.YtffdhjnbppagjaaGreat.DW
open Go.RowKit
noncomputable def btw (x a b:Option Rat):Bool:=decide (cmpO x (minO a b) ≥ 0) && decide (cmpO x (maxO a b)<=0)
noncomputable def spanB (p a b:DP):Bool:=btw (rdO p.1) (rdO a.1) (rdO b.1) && btw (rdO p.2) (rdO a.2) (rdO b.2)
noncomputable def meetB (a b c d:DP):Bool:=(decide (sdP a b c=0) && spanB c a b) || (decide (sdP a b d=0) && spanB d a b) || (decide (sdP c d a=0) && spanB a c d) || (decide (sdP c d b=0) && spanB b c d) || (decide (sdP a b c * sdP a b d < 0) && decide (sdP c d a * sdP c d b < 0))
theorem meetB_swap (a b c d:DP):meetB c d a b=meetB a b c d:=by
 unfold meetB
 generalize (decide (sdP a b c=0) && spanB c a b)=x1
 generalize (decide (sdP a b d=0) && spanB d a b)=x2
 generalize (decide (sdP c d a=0) && spanB a c d)=x3
 generalize (decide (sdP c d b=0) && spanB b c d)=x4
 generalize decide (sdP a b c * sdP a b d < 0)=x5
 generalize decide (sdP c d a * sdP c d b < 0)=x6
 revert x1 x2 x3 x4 x5 x6
 decide
theorem isBetween_fn (x a b:Option Rat) (hx:okO x) (ha:okO a) (hb:okO b):Fn Tryz.prog 352 [⟨tRat,oD x⟩,⟨tRat,oD a⟩,⟨tRat,oD b⟩] false [⟨.bool,btw x a b⟩]:=by
 have c1:=ratMin_fn a b ha hb
 have c2:=ratCmp_fn x (minO a b) hx (okO_min ha hb)
 have c3:=ratMax_fn a b ha hb
 have c4:=ratCmp_fn x (maxO a b) hx (okO_max ha hb)
 unfold btw
 by_cases h:cmpO x (minO a b) ≥ 0
 ·have d1:=decide_eq_true h
  rw [d1]
  refine fn_enter tabOK mixes Tryz.func352 rfl rfl _ Tryz.ntmps352 _ Tryz.results352 (by simp) fun hwf=>?_
  try simp (maxSteps:=9^9) only[go_sem]
  repeat refine And.intro (by first|omega|(constructor<;>omega)|kernel_rfl) ?_
  refine CallW.mk (c1) ?_
  try simp (maxSteps:=9^9) only[go_sem]
  repeat refine And.intro (by first|omega|(constructor<;>omega)|kernel_rfl) ?_
  refine CallW.mk (c2) ?_
  try simp (maxSteps:=9^9) only[go_sem]
  try simp (maxSteps:=9^9) only[go_sem,d1]
  repeat refine And.intro (by first|omega|(constructor<;>omega)|kernel_rfl) ?_
  refine CallW.mk (c3) ?_
  try simp (maxSteps:=9^9) only[go_sem]
  repeat refine And.intro (by first|omega|(constructor<;>omega)|kernel_rfl) ?_
  refine CallW.mk (c4) ?_
  try simp (maxSteps:=9^9) only[go_sem]
  all_goals repeat refine And.intro (by first|omega|(constructor<;>omega)|kernel_rfl) ?_
  all_goals first|kernel_rfl|omega|rfl
 ·have d1:=decide_eq_false h
  rw [d1]
  refine fn_enter tabOK mixes Tryz.func352 rfl rfl _ Tryz.ntmps352 _ Tryz.results352 (by simp) fun hwf=>?_
  try simp (maxSteps:=9^9) only[go_sem]
  repeat refine And.intro (by first|omega|(constructor<;>omega)|kernel_rfl) ?_
  refine CallW.mk (c1) ?_
  try simp (maxSteps:=9^9) only[go_sem]
  repeat refine And.intro (by first|omega|(constructor<;>omega)|kernel_rfl) ?_
  refine CallW.mk (c2) ?_
  try simp (maxSteps:=9^9) only[go_sem]
  try simp (maxSteps:=9^9) only[go_sem,d1]
  all_goals repeat refine And.intro (by first|omega|(constructor<;>omega)|kernel_rfl) ?_
  all_goals first|kernel_rfl|omega|rfl
theorem isInSpan_fn (p a b:DP) (hp:okPt p=true) (ha:okPt a=true) (hb:okPt b=true):Fn Tryz.prog 335 [⟨tPoint,p⟩,⟨tPoint,a⟩,⟨tPoint,b⟩] false [⟨.bool,spanB p a b⟩]:=by
 have c1:=isBetween_fn (rdO p.1) (rdO a.1) (rdO b.1) (okO_rdO _) (okO_rdO _) (okO_rdO _)
 have c2:=isBetween_fn (rdO p.2) (rdO a.2) (rdO b.2) (okO_rdO _) (okO_rdO _) (okO_rdO _)
 rw [gP_1 (gP_ok hp),gP_1 (gP_ok ha),gP_1 (gP_ok hb)] at c1
 rw [gP_2 (gP_ok hp),gP_2 (gP_ok ha),gP_2 (gP_ok hb)] at c2
 unfold spanB
 cases h:btw (rdO p.1) (rdO a.1) (rdO b.1)<;>rw [h] at c1
 ·refine fn_enter tabOK mixes Tryz.func335 rfl rfl _ Tryz.ntmps335 _ Tryz.results335 (by simp) fun hwf=>?_
  try simp (maxSteps:=9^9) only[go_sem]
  repeat refine And.intro (by first|omega|(constructor<;>omega)|kernel_rfl) ?_
  refine CallW.mk (c1) ?_
  try simp (maxSteps:=9^9) only[go_sem]
  all_goals repeat refine And.intro (by first|omega|(constructor<;>omega)|kernel_rfl) ?_
  all_goals first|kernel_rfl|omega|rfl
 ·refine fn_enter tabOK mixes Tryz.func335 rfl rfl _ Tryz.ntmps335 _ Tryz.results335 (by simp) fun hwf=>?_
  try simp (maxSteps:=9^9) only[go_sem]
  repeat refine And.intro (by first|omega|(constructor<;>omega)|kernel_rfl) ?_
  refine CallW.mk (c1) ?_
  try simp (maxSteps:=9^9) only[go_sem]
  repeat refine And.intro (by first|omega|(constructor<;>omega)|kernel_rfl) ?_
  refine CallW.mk (c2) ?_
  try simp (maxSteps:=9^9) only[go_sem]
  all_goals repeat refine And.intro (by first|omega|(constructor<;>omega)|kernel_rfl) ?_
  all_goals first|kernel_rfl|omega|rfl
theorem l08Between_fn (p a b:DP):Fn Tryz.prog 313 [⟨tPoint,p⟩,⟨tPoint,a⟩,⟨tPoint,b⟩] false [⟨.bool,spanB p a b⟩]:=by
 have c1:=specRatMin_fn a.1 b.1
 have c2:=specRatCmp_fn p.1 (oD (minO (rdO a.1) (rdO b.1)))
 have c3:=specRatMax_fn a.1 b.1
 have c4:=specRatCmp_fn p.1 (oD (maxO (rdO a.1) (rdO b.1)))
 have c5:=specRatMin_fn a.2 b.2
 have c6:=specRatCmp_fn p.2 (oD (minO (rdO a.2) (rdO b.2)))
 have c7:=specRatMax_fn a.2 b.2
 have c8:=specRatCmp_fn p.2 (oD (maxO (rdO a.2) (rdO b.2)))
 rw [rdO_oD (okO_min (okO_rdO _) (okO_rdO _))] at c2 c6
 rw [rdO_oD (okO_max (okO_rdO _) (okO_rdO _))] at c4 c8
 unfold spanB btw
 by_cases h1:cmpO (rdO p.1) (minO (rdO a.1) (rdO b.1)) ≥ 0
 ·have d1:=decide_eq_true h1
  rw [d1]
  by_cases h2:cmpO (rdO p.1) (maxO (rdO a.1) (rdO b.1))<=0
  ·have d2:=decide_eq_true h2
   rw [d2]
   by_cases h3:cmpO (rdO p.2) (minO (rdO a.2) (rdO b.2)) ≥ 0
   ·have d3:=decide_eq_true h3
    rw [d3]
    refine fn_enter tabOK mixes Tryz.func313 rfl rfl _ Tryz.ntmps313 _ Tryz.results313 (by simp) fun hwf=>?_
    try simp (maxSteps:=9^9) only[go_sem]
    repeat refine And.intro (by first|omega|(constructor<;>omega)|kernel_rfl) ?_
    refine CallW.mk (c1) ?_
    try simp (maxSteps:=9^9) only[go_sem]
    repeat refine And.intro (by first|omega|(constructor<;>omega)|kernel_rfl) ?_
    refine CallW.mk (c2) ?_
    try simp (maxSteps:=9^9) only[go_sem]
    try simp (maxSteps:=9^9) only[go_sem,d1]
    repeat refine And.intro (by first|omega|(constructor<;>omega)|kernel_rfl) ?_
    refine CallW.mk (c3) ?_
    try simp (maxSteps:=9^9) only[go_sem]
    repeat refine And.intro (by first|omega|(constructor<;>omega)|kernel_rfl) ?_
    refine CallW.mk (c4) ?_
    try simp (maxSteps:=9^9) only[go_sem]
    try simp (maxSteps:=9^9) only[go_sem,d2]
    repeat refine And.intro (by first|omega|(constructor<;>omega)|kernel_rfl) ?_
    refine CallW.mk (c5) ?_
    try simp (maxSteps:=9^9) only[go_sem]
    repeat refine And.intro (by first|omega|(constructor<;>omega)|kernel_rfl) ?_
    refine CallW.mk (c6) ?_
    try simp (maxSteps:=9^9) only[go_sem]
    try simp (maxSteps:=9^9) only[go_sem,d3]
    repeat refine And.intro (by first|omega|(constructor<;>omega)|kernel_rfl) ?_
    refine CallW.mk (c7) ?_
    try simp (maxSteps:=9^9) only[go_sem]
    repeat refine And.intro (by first|omega|(constructor<;>omega)|kernel_rfl) ?_
    refine CallW.mk (c8) ?_
    try simp (maxSteps:=9^9) only[go_sem]
    all_goals repeat refine And.intro (by first|omega|(constructor<;>omega)|kernel_rfl) ?_
    all_goals first|kernel_rfl|omega|rfl
   ·have d3:=decide_eq_false h3
    rw [d3]
    refine fn_enter tabOK mixes Tryz.func313 rfl rfl _ Tryz.ntmps313 _ Tryz.results313 (by simp) fun hwf=>?_
    try simp (maxSteps:=9^9) only[go_sem]
    repeat refine And.intro (by first|omega|(constructor<;>omega)|kernel_rfl) ?_
    refine CallW.mk (c1) ?_
    try simp (maxSteps:=9^9) only[go_sem]
    repeat refine And.intro (by first|omega|(constructor<;>omega)|kernel_rfl) ?_
    refine CallW.mk (c2) ?_
    try simp (maxSteps:=9^9) only[go_sem]
    try simp (maxSteps:=9^9) only[go_sem,d1]
    repeat refine And.intro (by first|omega|(constructor<;>omega)|kernel_rfl) ?_
    refine CallW.mk (c3) ?_
    try simp (maxSteps:=9^9) only[go_sem]
    repeat refine And.intro (by first|omega|(constructor<;>omega)|kernel_rfl) ?_
    refine CallW.mk (c4) ?_
    try simp (maxSteps:=9^9) only[go_sem]
    try simp (maxSteps:=9^9) only[go_sem,d2]
    repeat refine And.intro (by first|omega|(constructor<;>omega)|kernel_rfl) ?_
    refine CallW.mk (c5) ?_
    try simp (maxSteps:=9^9) only[go_sem]
    repeat refine And.intro (by first|omega|(constructor<;>omega)|kernel_rfl) ?_
    refine CallW.mk (c6) ?_
    try simp (maxSteps:=9^9) only[go_sem]
    try simp (maxSteps:=9^9) only[go_sem,d3]
    all_goals repeat refine And.intro (by first|omega|(constructor<;>omega)|kernel_rfl) ?_
    all_goals first|kernel_rfl|omega|rfl
  ·have d2:=decide_eq_false h2
   rw [d2]
   refine fn_enter tabOK mixes Tryz.func313 rfl rfl _ Tryz.ntmps313 _ Tryz.results313 (by simp) fun hwf=>?_
   try simp (maxSteps:=9^9) only[go_sem]
   repeat refine And.intro (by first|omega|(constructor<;>omega)|kernel_rfl) ?_
   refine CallW.mk (c1) ?_
   try simp (maxSteps:=9^9) only[go_sem]
   repeat refine And.intro (by first|omega|(constructor<;>omega)|kernel_rfl) ?_
   refine CallW.mk (c2) ?_
   try simp (maxSteps:=9^9) only[go_sem]
   try simp (maxSteps:=9^9) only[go_sem,d1]
   repeat refine And.intro (by first|omega|(constructor<;>omega)|kernel_rfl) ?_
   refine CallW.mk (c3) ?_
   try simp (maxSteps:=9^9) only[go_sem]
   repeat refine And.intro (by first|omega|(constructor<;>omega)|kernel_rfl) ?_
   refine CallW.mk (c4) ?_
   try simp (maxSteps:=9^9) only[go_sem]
   try simp (maxSteps:=9^9) only[go_sem,d2]
   all_goals repeat refine And.intro (by first|omega|(constructor<;>omega)|kernel_rfl) ?_
   all_goals first|kernel_rfl|omega|rfl
 ·have d1:=decide_eq_false h1
  rw [d1]
  refine fn_enter tabOK mixes Tryz.func313 rfl rfl _ Tryz.ntmps313 _ Tryz.results313 (by simp) fun hwf=>?_
  try simp (maxSteps:=9^9) only[go_sem]
  repeat refine And.intro (by first|omega|(constructor<;>omega)|kernel_rfl) ?_
  refine CallW.mk (c1) ?_
  try simp (maxSteps:=9^9) only[go_sem]
  repeat refine And.intro (by first|omega|(constructor<;>omega)|kernel_rfl) ?_
  refine CallW.mk (c2) ?_
  try simp (maxSteps:=9^9) only[go_sem]
  try simp (maxSteps:=9^9) only[go_sem,d1]
  all_goals repeat refine And.intro (by first|omega|(constructor<;>omega)|kernel_rfl) ?_
  all_goals first|kernel_rfl|omega|rfl
theorem sdP_b (p q r:DP):-1<=sdP p q r/\sdP p q r<=1:=by
 unfold sdP sgnO
 split
 ·unfold cmpQ
  split
  ·omega
  ·split<;>omega
 ·omega
theorem mul3 {x y:Int} (hx:-1<=x/\x<=1) (hy:-1<=y/\y<=1):-1<=x * y/\x * y<=1:=by
 have h1:x=-1\/x=0\/x=1:=by omega
 rcases h1 with rfl|rfl|rfl<;>omega
set_option maxRecDepth 100000 in
set_option maxHeartbeats 4000000 in
theorem meet_fn (a b c d:DP) (ha:okPt a=true) (hb:okPt b=true) (hc:okPt c=true) (hd:okPt d=true):Fn Tryz.prog 282 [⟨tPoint,a⟩,⟨tPoint,b⟩,⟨tPoint,c⟩,⟨tPoint,d⟩] false [⟨.bool,meetB a b c d⟩]:=by
 have c0:=side_fn a b c ha hb hc
 have c1:=side_fn a b d ha hb hd
 have c2:=side_fn c d a hc hd ha
 have c3:=side_fn c d b hc hd hb
 have s0:=isInSpan_fn c a b hc ha hb
 have s1:=isInSpan_fn d a b hd ha hb
 have s2:=isInSpan_fn a c d ha hc hd
 have s3:=isInSpan_fn b c d hb hc hd
 have b0:=sdP_b a b c
 have b1:=sdP_b a b d
 have b2:=sdP_b c d a
 have b3:=sdP_b c d b
 unfold meetB
 generalize sdP a b c=z0 at *
 generalize sdP a b d=z1 at *
 generalize sdP c d a=z2 at *
 generalize sdP c d b=z3 at *
 generalize spanB c a b=g0 at *
 generalize spanB d a b=g1 at *
 generalize spanB a c d=g2 at *
 generalize spanB b c d=g3 at *
 have m0:=mul3 b0 b1
 have m1:=mul3 b2 b3
 refine fn_enter tabOK mixes Tryz.func282 rfl rfl _ Tryz.ntmps282 _ Tryz.results282 (by simp) fun hwf=>?_
 try simp (maxSteps:=9^9) only[go_sem]
 repeat refine And.intro (by first|omega|(constructor<;>omega)|kernel_rfl) ?_
 refine CallW.mk (c0) ?_
 try simp (maxSteps:=9^9) only[go_sem]
 repeat refine And.intro (by first|omega|(constructor<;>omega)|kernel_rfl) ?_
 refine CallW.mk (c1) ?_
 try simp (maxSteps:=9^9) only[go_sem]
 repeat refine And.intro (by first|omega|(constructor<;>omega)|kernel_rfl) ?_
 refine CallW.mk (c2) ?_
 try simp (maxSteps:=9^9) only[go_sem]
 repeat refine And.intro (by first|omega|(constructor<;>omega)|kernel_rfl) ?_
 refine CallW.mk (c3) ?_
 try simp (maxSteps:=9^9) only[go_sem]
 repeat refine And.intro (by first|omega|(constructor<;>omega)|kernel_rfl) ?_
 by_cases h0:z0=0
 ·have d0:=decide_eq_true h0
  cases t0:g0<;>rw [t0] at s0
  ·try simp (maxSteps:=9^9) only[go_sem,d0]
   repeat refine And.intro (by first|omega|(constructor<;>omega)|kernel_rfl) ?_
   refine CallW.mk (s0) ?_
   try simp (maxSteps:=9^9) only[go_sem]
   by_cases h1:z1=0
   ·have d1:=decide_eq_true h1
    cases t1:g1<;>rw [t1] at s1
    ·try simp (maxSteps:=9^9) only[go_sem,d1]
     repeat refine And.intro (by first|omega|(constructor<;>omega)|kernel_rfl) ?_
     refine CallW.mk (s1) ?_
     try simp (maxSteps:=9^9) only[go_sem]
     by_cases h2:z2=0
     ·have d2:=decide_eq_true h2
      cases t2:g2<;>rw [t2] at s2
      ·try simp (maxSteps:=9^9) only[go_sem,d2]
       repeat refine And.intro (by first|omega|(constructor<;>omega)|kernel_rfl) ?_
       refine CallW.mk (s2) ?_
       try simp (maxSteps:=9^9) only[go_sem]
       by_cases h3:z3=0
       ·have d3:=decide_eq_true h3
        cases t3:g3<;>rw [t3] at s3
        ·try simp (maxSteps:=9^9) only[go_sem,d3]
         repeat refine And.intro (by first|omega|(constructor<;>omega)|kernel_rfl) ?_
         refine CallW.mk (s3) ?_
         try simp (maxSteps:=9^9) only[go_sem]
         by_cases q0:z0 * z1 < 0
         ·have e0:=decide_eq_true q0
          try simp (maxSteps:=9^9) only[go_sem,e0]
          repeat refine And.intro (by first|omega|(constructor<;>omega)|kernel_rfl) ?_
          all_goals first|omega|(simp [h0,h1,h2,h3,q0]; done)
         ·have e0:=decide_eq_false q0
          try simp (maxSteps:=9^9) only[go_sem,e0]
          repeat refine And.intro (by first|omega|(constructor<;>omega)|kernel_rfl) ?_
          all_goals first|omega|(simp [h0,h1,h2,h3,q0]; done)
        ·try simp (maxSteps:=9^9) only[go_sem,d3]
         repeat refine And.intro (by first|omega|(constructor<;>omega)|kernel_rfl) ?_
         refine CallW.mk (s3) ?_
         try simp (maxSteps:=9^9) only[go_sem]
         all_goals first|omega|(simp [h0,h1,h2,h3]; done)
       ·have d3:=decide_eq_false h3
        try simp (maxSteps:=9^9) only[go_sem,d3]
        by_cases q0:z0 * z1 < 0
        ·have e0:=decide_eq_true q0
         try simp (maxSteps:=9^9) only[go_sem,e0]
         repeat refine And.intro (by first|omega|(constructor<;>omega)|kernel_rfl) ?_
         all_goals first|omega|(simp [h0,h1,h2,h3,q0]; done)
        ·have e0:=decide_eq_false q0
         try simp (maxSteps:=9^9) only[go_sem,e0]
         repeat refine And.intro (by first|omega|(constructor<;>omega)|kernel_rfl) ?_
         all_goals first|omega|(simp [h0,h1,h2,h3,q0]; done)
      ·try simp (maxSteps:=9^9) only[go_sem,d2]
       repeat refine And.intro (by first|omega|(constructor<;>omega)|kernel_rfl) ?_
       refine CallW.mk (s2) ?_
       try simp (maxSteps:=9^9) only[go_sem]
       all_goals first|omega|(simp [h0,h1,h2]; done)
     ·have d2:=decide_eq_false h2
      try simp (maxSteps:=9^9) only[go_sem,d2]
      by_cases h3:z3=0
      ·have d3:=decide_eq_true h3
       cases t3:g3<;>rw [t3] at s3
       ·try simp (maxSteps:=9^9) only[go_sem,d3]
        repeat refine And.intro (by first|omega|(constructor<;>omega)|kernel_rfl) ?_
        refine CallW.mk (s3) ?_
        try simp (maxSteps:=9^9) only[go_sem]
        by_cases q0:z0 * z1 < 0
        ·have e0:=decide_eq_true q0
         try simp (maxSteps:=9^9) only[go_sem,e0]
         repeat refine And.intro (by first|omega|(constructor<;>omega)|kernel_rfl) ?_
         all_goals first|omega|(simp [h0,h1,h2,h3,q0]; done)
        ·have e0:=decide_eq_false q0
         try simp (maxSteps:=9^9) only[go_sem,e0]
         repeat refine And.intro (by first|omega|(constructor<;>omega)|kernel_rfl) ?_
         all_goals first|omega|(simp [h0,h1,h2,h3,q0]; done)
       ·try simp (maxSteps:=9^9) only[go_sem,d3]
        repeat refine And.intro (by first|omega|(constructor<;>omega)|kernel_rfl) ?_
        refine CallW.mk (s3) ?_
        try simp (maxSteps:=9^9) only[go_sem]
        all_goals first|omega|(simp [h0,h1,h2,h3]; done)
      ·have d3:=decide_eq_false h3
       try simp (maxSteps:=9^9) only[go_sem,d3]
       by_cases q0:z0 * z1 < 0
       ·have e0:=decide_eq_true q0
        try simp (maxSteps:=9^9) only[go_sem,e0]
        repeat refine And.intro (by first|omega|(constructor<;>omega)|kernel_rfl) ?_
        all_goals first|omega|(simp [h0,h1,h2,h3,q0]; done)
       ·have e0:=decide_eq_false q0
        try simp (maxSteps:=9^9) only[go_sem,e0]
        repeat refine And.intro (by first|omega|(constructor<;>omega)|kernel_rfl) ?_
        all_goals first|omega|(simp [h0,h1,h2,h3,q0]; done)
    ·try simp (maxSteps:=9^9) only[go_sem,d1]
     repeat refine And.intro (by first|omega|(constructor<;>omega)|kernel_rfl) ?_
     refine CallW.mk (s1) ?_
     try simp (maxSteps:=9^9) only[go_sem]
     all_goals first|omega|(simp [h0,h1]; done)
   ·have d1:=decide_eq_false h1
    try simp (maxSteps:=9^9) only[go_sem,d1]
    by_cases h2:z2=0
    ·have d2:=decide_eq_true h2
     cases t2:g2<;>rw [t2] at s2
     ·try simp (maxSteps:=9^9) only[go_sem,d2]
      repeat refine And.intro (by first|omega|(constructor<;>omega)|kernel_rfl) ?_
      refine CallW.mk (s2) ?_
      try simp (maxSteps:=9^9) only[go_sem]
      by_cases h3:z3=0
      ·have d3:=decide_eq_true h3
       cases t3:g3<;>rw [t3] at s3
       ·try simp (maxSteps:=9^9) only[go_sem,d3]
        repeat refine And.intro (by first|omega|(constructor<;>omega)|kernel_rfl) ?_
        refine CallW.mk (s3) ?_
        try simp (maxSteps:=9^9) only[go_sem]
        by_cases q0:z0 * z1 < 0
        ·have e0:=decide_eq_true q0
         try simp (maxSteps:=9^9) only[go_sem,e0]
         repeat refine And.intro (by first|omega|(constructor<;>omega)|kernel_rfl) ?_
         all_goals first|omega|(simp [h0,h1,h2,h3,q0]; done)
        ·have e0:=decide_eq_false q0
         try simp (maxSteps:=9^9) only[go_sem,e0]
         repeat refine And.intro (by first|omega|(constructor<;>omega)|kernel_rfl) ?_
         all_goals first|omega|(simp [h0,h1,h2,h3,q0]; done)
       ·try simp (maxSteps:=9^9) only[go_sem,d3]
        repeat refine And.intro (by first|omega|(constructor<;>omega)|kernel_rfl) ?_
        refine CallW.mk (s3) ?_
        try simp (maxSteps:=9^9) only[go_sem]
        all_goals first|omega|(simp [h0,h1,h2,h3]; done)
      ·have d3:=decide_eq_false h3
       try simp (maxSteps:=9^9) only[go_sem,d3]
       by_cases q0:z0 * z1 < 0
       ·have e0:=decide_eq_true q0
        try simp (maxSteps:=9^9) only[go_sem,e0]
        repeat refine And.intro (by first|omega|(constructor<;>omega)|kernel_rfl) ?_
        all_goals first|omega|(simp [h0,h1,h2,h3,q0]; done)
       ·have e0:=decide_eq_false q0
        try simp (maxSteps:=9^9) only[go_sem,e0]
        repeat refine And.intro (by first|omega|(constructor<;>omega)|kernel_rfl) ?_
        all_goals first|omega|(simp [h0,h1,h2,h3,q0]; done)
     ·try simp (maxSteps:=9^9) only[go_sem,d2]
      repeat refine And.intro (by first|omega|(constructor<;>omega)|kernel_rfl) ?_
      refine CallW.mk (s2) ?_
      try simp (maxSteps:=9^9) only[go_sem]
      all_goals first|omega|(simp [h0,h1,h2]; done)
    ·have d2:=decide_eq_false h2
     try simp (maxSteps:=9^9) only[go_sem,d2]
     by_cases h3:z3=0
     ·have d3:=decide_eq_true h3
      cases t3:g3<;>rw [t3] at s3
      ·try simp (maxSteps:=9^9) only[go_sem,d3]
       repeat refine And.intro (by first|omega|(constructor<;>omega)|kernel_rfl) ?_
       refine CallW.mk (s3) ?_
       try simp (maxSteps:=9^9) only[go_sem]
       by_cases q0:z0 * z1 < 0
       ·have e0:=decide_eq_true q0
        try simp (maxSteps:=9^9) only[go_sem,e0]
        repeat refine And.intro (by first|omega|(constructor<;>omega)|kernel_rfl) ?_
        all_goals first|omega|(simp [h0,h1,h2,h3,q0]; done)
       ·have e0:=decide_eq_false q0
        try simp (maxSteps:=9^9) only[go_sem,e0]
        repeat refine And.intro (by first|omega|(constructor<;>omega)|kernel_rfl) ?_
        all_goals first|omega|(simp [h0,h1,h2,h3,q0]; done)
      ·try simp (maxSteps:=9^9) only[go_sem,d3]
       repeat refine And.intro (by first|omega|(constructor<;>omega)|kernel_rfl) ?_
       refine CallW.mk (s3) ?_
       try simp (maxSteps:=9^9) only[go_sem]
       all_goals first|omega|(simp [h0,h1,h2,h3]; done)
     ·have d3:=decide_eq_false h3
      try simp (maxSteps:=9^9) only[go_sem,d3]
      by_cases q0:z0 * z1 < 0
      ·have e0:=decide_eq_true q0
       try simp (maxSteps:=9^9) only[go_sem,e0]
       repeat refine And.intro (by first|omega|(constructor<;>omega)|kernel_rfl) ?_
       all_goals first|omega|(simp [h0,h1,h2,h3,q0]; done)
      ·have e0:=decide_eq_false q0
       try simp (maxSteps:=9^9) only[go_sem,e0]
       repeat refine And.intro (by first|omega|(constructor<;>omega)|kernel_rfl) ?_
       all_goals first|omega|(simp [h0,h1,h2,h3,q0]; done)
  ·try simp (maxSteps:=9^9) only[go_sem,d0]
   repeat refine And.intro (by first|omega|(constructor<;>omega)|kernel_rfl) ?_
   refine CallW.mk (s0) ?_
   try simp (maxSteps:=9^9) only[go_sem]
   all_goals first|omega|(simp [h0]; done)
 ·have d0:=decide_eq_false h0
  try simp (maxSteps:=9^9) only[go_sem,d0]
  by_cases h1:z1=0
  ·have d1:=decide_eq_true h1
   cases t1:g1<;>rw [t1] at s1
   ·try simp (maxSteps:=9^9) only[go_sem,d1]
    repeat refine And.intro (by first|omega|(constructor<;>omega)|kernel_rfl) ?_
    refine CallW.mk (s1) ?_
    try simp (maxSteps:=9^9) only[go_sem]
    by_cases h2:z2=0
    ·have d2:=decide_eq_true h2
     cases t2:g2<;>rw [t2] at s2
     ·try simp (maxSteps:=9^9) only[go_sem,d2]
      repeat refine And.intro (by first|omega|(constructor<;>omega)|kernel_rfl) ?_
      refine CallW.mk (s2) ?_
      try simp (maxSteps:=9^9) only[go_sem]
      by_cases h3:z3=0
      ·have d3:=decide_eq_true h3
       cases t3:g3<;>rw [t3] at s3
       ·try simp (maxSteps:=9^9) only[go_sem,d3]
        repeat refine And.intro (by first|omega|(constructor<;>omega)|kernel_rfl) ?_
        refine CallW.mk (s3) ?_
        try simp (maxSteps:=9^9) only[go_sem]
        by_cases q0:z0 * z1 < 0
        ·have e0:=decide_eq_true q0
         try simp (maxSteps:=9^9) only[go_sem,e0]
         repeat refine And.intro (by first|omega|(constructor<;>omega)|kernel_rfl) ?_
         all_goals first|omega|(simp [h0,h1,h2,h3,q0]; done)
        ·have e0:=decide_eq_false q0
         try simp (maxSteps:=9^9) only[go_sem,e0]
         repeat refine And.intro (by first|omega|(constructor<;>omega)|kernel_rfl) ?_
         all_goals first|omega|(simp [h0,h1,h2,h3,q0]; done)
       ·try simp (maxSteps:=9^9) only[go_sem,d3]
        repeat refine And.intro (by first|omega|(constructor<;>omega)|kernel_rfl) ?_
        refine CallW.mk (s3) ?_
        try simp (maxSteps:=9^9) only[go_sem]
        all_goals first|omega|(simp [h0,h1,h2,h3]; done)
      ·have d3:=decide_eq_false h3
       try simp (maxSteps:=9^9) only[go_sem,d3]
       by_cases q0:z0 * z1 < 0
       ·have e0:=decide_eq_true q0
        try simp (maxSteps:=9^9) only[go_sem,e0]
        repeat refine And.intro (by first|omega|(constructor<;>omega)|kernel_rfl) ?_
        all_goals first|omega|(simp [h0,h1,h2,h3,q0]; done)
       ·have e0:=decide_eq_false q0
        try simp (maxSteps:=9^9) only[go_sem,e0]
        repeat refine And.intro (by first|omega|(constructor<;>omega)|kernel_rfl) ?_
        all_goals first|omega|(simp [h0,h1,h2,h3,q0]; done)
     ·try simp (maxSteps:=9^9) only[go_sem,d2]
      repeat refine And.intro (by first|omega|(constructor<;>omega)|kernel_rfl) ?_
      refine CallW.mk (s2) ?_
      try simp (maxSteps:=9^9) only[go_sem]
      all_goals first|omega|(simp [h0,h1,h2]; done)
    ·have d2:=decide_eq_false h2
     try simp (maxSteps:=9^9) only[go_sem,d2]
     by_cases h3:z3=0
     ·have d3:=decide_eq_true h3
      cases t3:g3<;>rw [t3] at s3
      ·try simp (maxSteps:=9^9) only[go_sem,d3]
       repeat refine And.intro (by first|omega|(constructor<;>omega)|kernel_rfl) ?_
       refine CallW.mk (s3) ?_
       try simp (maxSteps:=9^9) only[go_sem]
       by_cases q0:z0 * z1 < 0
       ·have e0:=decide_eq_true q0
        try simp (maxSteps:=9^9) only[go_sem,e0]
        repeat refine And.intro (by first|omega|(constructor<;>omega)|kernel_rfl) ?_
        all_goals first|omega|(simp [h0,h1,h2,h3,q0]; done)
       ·have e0:=decide_eq_false q0
        try simp (maxSteps:=9^9) only[go_sem,e0]
        repeat refine And.intro (by first|omega|(constructor<;>omega)|kernel_rfl) ?_
        all_goals first|omega|(simp [h0,h1,h2,h3,q0]; done)
      ·try simp (maxSteps:=9^9) only[go_sem,d3]
       repeat refine And.intro (by first|omega|(constructor<;>omega)|kernel_rfl) ?_
       refine CallW.mk (s3) ?_
       try simp (maxSteps:=9^9) only[go_sem]
       all_goals first|omega|(simp [h0,h1,h2,h3]; done)
     ·have d3:=decide_eq_false h3
      try simp (maxSteps:=9^9) only[go_sem,d3]
      by_cases q0:z0 * z1 < 0
      ·have e0:=decide_eq_true q0
       try simp (maxSteps:=9^9) only[go_sem,e0]
       repeat refine And.intro (by first|omega|(constructor<;>omega)|kernel_rfl) ?_
       all_goals first|omega|(simp [h0,h1,h2,h3,q0]; done)
      ·have e0:=decide_eq_false q0
       try simp (maxSteps:=9^9) only[go_sem,e0]
       repeat refine And.intro (by first|omega|(constructor<;>omega)|kernel_rfl) ?_
       all_goals first|omega|(simp [h0,h1,h2,h3,q0]; done)
   ·try simp (maxSteps:=9^9) only[go_sem,d1]
    repeat refine And.intro (by first|omega|(constructor<;>omega)|kernel_rfl) ?_
    refine CallW.mk (s1) ?_
    try simp (maxSteps:=9^9) only[go_sem]
    all_goals first|omega|(simp [h0,h1]; done)
  ·have d1:=decide_eq_false h1
   try simp (maxSteps:=9^9) only[go_sem,d1]
   by_cases h2:z2=0
   ·have d2:=decide_eq_true h2
    cases t2:g2<;>rw [t2] at s2
    ·try simp (maxSteps:=9^9) only[go_sem,d2]
     repeat refine And.intro (by first|omega|(constructor<;>omega)|kernel_rfl) ?_
     refine CallW.mk (s2) ?_
     try simp (maxSteps:=9^9) only[go_sem]
     by_cases h3:z3=0
     ·have d3:=decide_eq_true h3
      cases t3:g3<;>rw [t3] at s3
      ·try simp (maxSteps:=9^9) only[go_sem,d3]
       repeat refine And.intro (by first|omega|(constructor<;>omega)|kernel_rfl) ?_
       refine CallW.mk (s3) ?_
       try simp (maxSteps:=9^9) only[go_sem]
       by_cases q0:z0 * z1 < 0
       ·have e0:=decide_eq_true q0
        try simp (maxSteps:=9^9) only[go_sem,e0]
        repeat refine And.intro (by first|omega|(constructor<;>omega)|kernel_rfl) ?_
        all_goals first|omega|(simp [h0,h1,h2,h3,q0]; done)
       ·have e0:=decide_eq_false q0
        try simp (maxSteps:=9^9) only[go_sem,e0]
        repeat refine And.intro (by first|omega|(constructor<;>omega)|kernel_rfl) ?_
        all_goals first|omega|(simp [h0,h1,h2,h3,q0]; done)
      ·try simp (maxSteps:=9^9) only[go_sem,d3]
       repeat refine And.intro (by first|omega|(constructor<;>omega)|kernel_rfl) ?_
       refine CallW.mk (s3) ?_
       try simp (maxSteps:=9^9) only[go_sem]
       all_goals first|omega|(simp [h0,h1,h2,h3]; done)
     ·have d3:=decide_eq_false h3
      try simp (maxSteps:=9^9) only[go_sem,d3]
      by_cases q0:z0 * z1 < 0
      ·have e0:=decide_eq_true q0
       try simp (maxSteps:=9^9) only[go_sem,e0]
       repeat refine And.intro (by first|omega|(constructor<;>omega)|kernel_rfl) ?_
       all_goals first|omega|(simp [h0,h1,h2,h3,q0]; done)
      ·have e0:=decide_eq_false q0
       try simp (maxSteps:=9^9) only[go_sem,e0]
       repeat refine And.intro (by first|omega|(constructor<;>omega)|kernel_rfl) ?_
       all_goals first|omega|(simp [h0,h1,h2,h3,q0]; done)
    ·try simp (maxSteps:=9^9) only[go_sem,d2]
     repeat refine And.intro (by first|omega|(constructor<;>omega)|kernel_rfl) ?_
     refine CallW.mk (s2) ?_
     try simp (maxSteps:=9^9) only[go_sem]
     all_goals first|omega|(simp [h0,h1,h2]; done)
   ·have d2:=decide_eq_false h2
    try simp (maxSteps:=9^9) only[go_sem,d2]
    by_cases h3:z3=0
    ·have d3:=decide_eq_true h3
     cases t3:g3<;>rw [t3] at s3
     ·try simp (maxSteps:=9^9) only[go_sem,d3]
      repeat refine And.intro (by first|omega|(constructor<;>omega)|kernel_rfl) ?_
      refine CallW.mk (s3) ?_
      try simp (maxSteps:=9^9) only[go_sem]
      by_cases q0:z0 * z1 < 0
      ·have e0:=decide_eq_true q0
       try simp (maxSteps:=9^9) only[go_sem,e0]
       repeat refine And.intro (by first|omega|(constructor<;>omega)|kernel_rfl) ?_
       all_goals first|omega|(simp [h0,h1,h2,h3,q0]; done)
      ·have e0:=decide_eq_false q0
       try simp (maxSteps:=9^9) only[go_sem,e0]
       repeat refine And.intro (by first|omega|(constructor<;>omega)|kernel_rfl) ?_
       all_goals first|omega|(simp [h0,h1,h2,h3,q0]; done)
     ·try simp (maxSteps:=9^9) only[go_sem,d3]
      repeat refine And.intro (by first|omega|(constructor<;>omega)|kernel_rfl) ?_
      refine CallW.mk (s3) ?_
      try simp (maxSteps:=9^9) only[go_sem]
      all_goals first|omega|(simp [h0,h1,h2,h3]; done)
    ·have d3:=decide_eq_false h3
     try simp (maxSteps:=9^9) only[go_sem,d3]
     by_cases q0:z0 * z1 < 0
     ·have e0:=decide_eq_true q0
      try simp (maxSteps:=9^9) only[go_sem,e0]
      repeat refine And.intro (by first|omega|(constructor<;>omega)|kernel_rfl) ?_
      all_goals first|omega|(simp [h0,h1,h2,h3,q0]; done)
     ·have e0:=decide_eq_false q0
      try simp (maxSteps:=9^9) only[go_sem,e0]
      repeat refine And.intro (by first|omega|(constructor<;>omega)|kernel_rfl) ?_
      all_goals first|omega|(simp [h0,h1,h2,h3,q0]; done)
end Go.Proofs.YtffdhjnbppagjaaGreat.DW

namespace Go.Proofs.YtffdhjnbppagjaaGreat.DW
open Go.RowKit
set_option maxRecDepth 100000 in
set_option maxHeartbeats 4000000 in
theorem SegmentsMeetS_fn (a b c d:DP) (ha:okPt a=true) (hb:okPt b=true) (hc:okPt c=true) (hd:okPt d=true):Fn Tryz.prog 244 [⟨tPoint,a⟩,⟨tPoint,b⟩,⟨tPoint,c⟩,⟨tPoint,d⟩] false [⟨.bool,meetB a b c d⟩]:=by
 have va:=specIsValidPoint_fn a
 rw [ha] at va
 have vb:=specIsValidPoint_fn b
 rw [hb] at vb
 have vc:=specIsValidPoint_fn c
 rw [hc] at vc
 have vd:=specIsValidPoint_fn d
 rw [hd] at vd
 have c0:=specSide_fn a b c
 have c1:=specSide_fn a b d
 have c2:=specSide_fn c d a
 have c3:=specSide_fn c d b
 have s0:=l08Between_fn c a b
 have s1:=l08Between_fn d a b
 have s2:=l08Between_fn a c d
 have s3:=l08Between_fn b c d
 have b0:=sdP_b a b c
 have b1:=sdP_b a b d
 have b2:=sdP_b c d a
 have b3:=sdP_b c d b
 unfold meetB
 generalize sdP a b c=z0 at *
 generalize sdP a b d=z1 at *
 generalize sdP c d a=z2 at *
 generalize sdP c d b=z3 at *
 generalize spanB c a b=g0 at *
 generalize spanB d a b=g1 at *
 generalize spanB a c d=g2 at *
 generalize spanB b c d=g3 at *
 have m0:=mul3 b0 b1
 have m1:=mul3 b2 b3
 refine fn_enter tabOK mixes Tryz.func244 rfl rfl _ Tryz.ntmps244 _ Tryz.results244 (by simp) fun hwf=>?_
 try simp (maxSteps:=9^9) only[go_sem]
 repeat refine And.intro (by first|omega|(constructor<;>omega)|kernel_rfl) ?_
 refine CallW.mk (va) ?_
 try simp (maxSteps:=9^9) only[go_sem]
 repeat refine And.intro (by first|omega|(constructor<;>omega)|kernel_rfl) ?_
 refine CallW.mk (vb) ?_
 try simp (maxSteps:=9^9) only[go_sem]
 repeat refine And.intro (by first|omega|(constructor<;>omega)|kernel_rfl) ?_
 refine CallW.mk (vc) ?_
 try simp (maxSteps:=9^9) only[go_sem]
 repeat refine And.intro (by first|omega|(constructor<;>omega)|kernel_rfl) ?_
 refine CallW.mk (vd) ?_
 try simp (maxSteps:=9^9) only[go_sem]
 repeat refine And.intro (by first|omega|(constructor<;>omega)|kernel_rfl) ?_
 refine CallW.mk (c0) ?_
 try simp (maxSteps:=9^9) only[go_sem]
 repeat refine And.intro (by first|omega|(constructor<;>omega)|kernel_rfl) ?_
 refine CallW.mk (c1) ?_
 try simp (maxSteps:=9^9) only[go_sem]
 repeat refine And.intro (by first|omega|(constructor<;>omega)|kernel_rfl) ?_
 refine CallW.mk (c2) ?_
 try simp (maxSteps:=9^9) only[go_sem]
 repeat refine And.intro (by first|omega|(constructor<;>omega)|kernel_rfl) ?_
 refine CallW.mk (c3) ?_
 try simp (maxSteps:=9^9) only[go_sem]
 repeat refine And.intro (by first|omega|(constructor<;>omega)|kernel_rfl) ?_
 by_cases q0:z0 * z1 < 0
 ·have e0:=decide_eq_true q0
  by_cases q1:z2 * z3 < 0
  ·have e1:=decide_eq_true q1
   try simp (maxSteps:=9^9) only[go_sem,e0,e1]
   repeat refine And.intro (by first|omega|(constructor<;>omega)|kernel_rfl) ?_
   try simp (maxSteps:=9^9) only[go_sem,e0,e1]
   all_goals first|omega|(simp [q0,q1]; done)
  ·have e1:=decide_eq_false q1
   try simp (maxSteps:=9^9) only[go_sem,e0,e1]
   repeat refine And.intro (by first|omega|(constructor<;>omega)|kernel_rfl) ?_
   try simp (maxSteps:=9^9) only[go_sem,e0,e1]
   by_cases h0:z0=0
   ·have d0:=decide_eq_true h0
    cases t0:g0<;>rw [t0] at s0
    ·try simp (maxSteps:=9^9) only[go_sem,e0,e1,d0]
     repeat refine And.intro (by first|omega|(constructor<;>omega)|kernel_rfl) ?_
     refine CallW.mk (s0) ?_
     try simp (maxSteps:=9^9) only[go_sem]
     by_cases h1:z1=0
     ·have d1:=decide_eq_true h1
      cases t1:g1<;>rw [t1] at s1
      ·try simp (maxSteps:=9^9) only[go_sem,e0,e1,d0,d1]
       repeat refine And.intro (by first|omega|(constructor<;>omega)|kernel_rfl) ?_
       refine CallW.mk (s1) ?_
       try simp (maxSteps:=9^9) only[go_sem]
       by_cases h2:z2=0
       ·have d2:=decide_eq_true h2
        cases t2:g2<;>rw [t2] at s2
        ·try simp (maxSteps:=9^9) only[go_sem,e0,e1,d0,d1,d2]
         repeat refine And.intro (by first|omega|(constructor<;>omega)|kernel_rfl) ?_
         refine CallW.mk (s2) ?_
         try simp (maxSteps:=9^9) only[go_sem]
         by_cases h3:z3=0
         ·have d3:=decide_eq_true h3
          cases t3:g3<;>rw [t3] at s3
          ·try simp (maxSteps:=9^9) only[go_sem,e0,e1,d0,d1,d2,d3]
           repeat refine And.intro (by first|omega|(constructor<;>omega)|kernel_rfl) ?_
           refine CallW.mk (s3) ?_
           try simp (maxSteps:=9^9) only[go_sem]
           all_goals first|omega|(simp [q0,q1,h0,h1,h2,h3]; done)
          ·try simp (maxSteps:=9^9) only[go_sem,e0,e1,d0,d1,d2,d3]
           repeat refine And.intro (by first|omega|(constructor<;>omega)|kernel_rfl) ?_
           refine CallW.mk (s3) ?_
           try simp (maxSteps:=9^9) only[go_sem]
           all_goals first|omega|(simp [q0,q1,h0,h1,h2,h3]; done)
         ·have d3:=decide_eq_false h3
          try simp (maxSteps:=9^9) only[go_sem,e0,e1,d0,d1,d2,d3]
          all_goals first|omega|(simp [q0,q1,h0,h1,h2,h3]; done)
        ·try simp (maxSteps:=9^9) only[go_sem,e0,e1,d0,d1,d2]
         repeat refine And.intro (by first|omega|(constructor<;>omega)|kernel_rfl) ?_
         refine CallW.mk (s2) ?_
         try simp (maxSteps:=9^9) only[go_sem]
         all_goals first|omega|(simp [q0,q1,h0,h1,h2]; done)
       ·have d2:=decide_eq_false h2
        try simp (maxSteps:=9^9) only[go_sem,e0,e1,d0,d1,d2]
        by_cases h3:z3=0
        ·have d3:=decide_eq_true h3
         cases t3:g3<;>rw [t3] at s3
         ·try simp (maxSteps:=9^9) only[go_sem,e0,e1,d0,d1,d2,d3]
          repeat refine And.intro (by first|omega|(constructor<;>omega)|kernel_rfl) ?_
          refine CallW.mk (s3) ?_
          try simp (maxSteps:=9^9) only[go_sem]
          all_goals first|omega|(simp [q0,q1,h0,h1,h2,h3]; done)
         ·try simp (maxSteps:=9^9) only[go_sem,e0,e1,d0,d1,d2,d3]
          repeat refine And.intro (by first|omega|(constructor<;>omega)|kernel_rfl) ?_
          refine CallW.mk (s3) ?_
          try simp (maxSteps:=9^9) only[go_sem]
          all_goals first|omega|(simp [q0,q1,h0,h1,h2,h3]; done)
        ·have d3:=decide_eq_false h3
         try simp (maxSteps:=9^9) only[go_sem,e0,e1,d0,d1,d2,d3]
         all_goals first|omega|(simp [q0,q1,h0,h1,h2,h3]; done)
      ·try simp (maxSteps:=9^9) only[go_sem,e0,e1,d0,d1]
       repeat refine And.intro (by first|omega|(constructor<;>omega)|kernel_rfl) ?_
       refine CallW.mk (s1) ?_
       try simp (maxSteps:=9^9) only[go_sem]
       all_goals first|omega|(simp [q0,q1,h0,h1]; done)
     ·have d1:=decide_eq_false h1
      try simp (maxSteps:=9^9) only[go_sem,e0,e1,d0,d1]
      by_cases h2:z2=0
      ·have d2:=decide_eq_true h2
       cases t2:g2<;>rw [t2] at s2
       ·try simp (maxSteps:=9^9) only[go_sem,e0,e1,d0,d1,d2]
        repeat refine And.intro (by first|omega|(constructor<;>omega)|kernel_rfl) ?_
        refine CallW.mk (s2) ?_
        try simp (maxSteps:=9^9) only[go_sem]
        by_cases h3:z3=0
        ·have d3:=decide_eq_true h3
         cases t3:g3<;>rw [t3] at s3
         ·try simp (maxSteps:=9^9) only[go_sem,e0,e1,d0,d1,d2,d3]
          repeat refine And.intro (by first|omega|(constructor<;>omega)|kernel_rfl) ?_
          refine CallW.mk (s3) ?_
          try simp (maxSteps:=9^9) only[go_sem]
          all_goals first|omega|(simp [q0,q1,h0,h1,h2,h3]; done)
         ·try simp (maxSteps:=9^9) only[go_sem,e0,e1,d0,d1,d2,d3]
          repeat refine And.intro (by first|omega|(constructor<;>omega)|kernel_rfl) ?_
          refine CallW.mk (s3) ?_
          try simp (maxSteps:=9^9) only[go_sem]
          all_goals first|omega|(simp [q0,q1,h0,h1,h2,h3]; done)
        ·have d3:=decide_eq_false h3
         try simp (maxSteps:=9^9) only[go_sem,e0,e1,d0,d1,d2,d3]
         all_goals first|omega|(simp [q0,q1,h0,h1,h2,h3]; done)
       ·try simp (maxSteps:=9^9) only[go_sem,e0,e1,d0,d1,d2]
        repeat refine And.intro (by first|omega|(constructor<;>omega)|kernel_rfl) ?_
        refine CallW.mk (s2) ?_
        try simp (maxSteps:=9^9) only[go_sem]
        all_goals first|omega|(simp [q0,q1,h0,h1,h2]; done)
      ·have d2:=decide_eq_false h2
       try simp (maxSteps:=9^9) only[go_sem,e0,e1,d0,d1,d2]
       by_cases h3:z3=0
       ·have d3:=decide_eq_true h3
        cases t3:g3<;>rw [t3] at s3
        ·try simp (maxSteps:=9^9) only[go_sem,e0,e1,d0,d1,d2,d3]
         repeat refine And.intro (by first|omega|(constructor<;>omega)|kernel_rfl) ?_
         refine CallW.mk (s3) ?_
         try simp (maxSteps:=9^9) only[go_sem]
         all_goals first|omega|(simp [q0,q1,h0,h1,h2,h3]; done)
        ·try simp (maxSteps:=9^9) only[go_sem,e0,e1,d0,d1,d2,d3]
         repeat refine And.intro (by first|omega|(constructor<;>omega)|kernel_rfl) ?_
         refine CallW.mk (s3) ?_
         try simp (maxSteps:=9^9) only[go_sem]
         all_goals first|omega|(simp [q0,q1,h0,h1,h2,h3]; done)
       ·have d3:=decide_eq_false h3
        try simp (maxSteps:=9^9) only[go_sem,e0,e1,d0,d1,d2,d3]
        all_goals first|omega|(simp [q0,q1,h0,h1,h2,h3]; done)
    ·try simp (maxSteps:=9^9) only[go_sem,e0,e1,d0]
     repeat refine And.intro (by first|omega|(constructor<;>omega)|kernel_rfl) ?_
     refine CallW.mk (s0) ?_
     try simp (maxSteps:=9^9) only[go_sem]
     all_goals first|omega|(simp [q0,q1,h0]; done)
   ·have d0:=decide_eq_false h0
    try simp (maxSteps:=9^9) only[go_sem,e0,e1,d0]
    by_cases h1:z1=0
    ·have d1:=decide_eq_true h1
     cases t1:g1<;>rw [t1] at s1
     ·try simp (maxSteps:=9^9) only[go_sem,e0,e1,d0,d1]
      repeat refine And.intro (by first|omega|(constructor<;>omega)|kernel_rfl) ?_
      refine CallW.mk (s1) ?_
      try simp (maxSteps:=9^9) only[go_sem]
      by_cases h2:z2=0
      ·have d2:=decide_eq_true h2
       cases t2:g2<;>rw [t2] at s2
       ·try simp (maxSteps:=9^9) only[go_sem,e0,e1,d0,d1,d2]
        repeat refine And.intro (by first|omega|(constructor<;>omega)|kernel_rfl) ?_
        refine CallW.mk (s2) ?_
        try simp (maxSteps:=9^9) only[go_sem]
        by_cases h3:z3=0
        ·have d3:=decide_eq_true h3
         cases t3:g3<;>rw [t3] at s3
         ·try simp (maxSteps:=9^9) only[go_sem,e0,e1,d0,d1,d2,d3]
          repeat refine And.intro (by first|omega|(constructor<;>omega)|kernel_rfl) ?_
          refine CallW.mk (s3) ?_
          try simp (maxSteps:=9^9) only[go_sem]
          all_goals first|omega|(simp [q0,q1,h0,h1,h2,h3]; done)
         ·try simp (maxSteps:=9^9) only[go_sem,e0,e1,d0,d1,d2,d3]
          repeat refine And.intro (by first|omega|(constructor<;>omega)|kernel_rfl) ?_
          refine CallW.mk (s3) ?_
          try simp (maxSteps:=9^9) only[go_sem]
          all_goals first|omega|(simp [q0,q1,h0,h1,h2,h3]; done)
        ·have d3:=decide_eq_false h3
         try simp (maxSteps:=9^9) only[go_sem,e0,e1,d0,d1,d2,d3]
         all_goals first|omega|(simp [q0,q1,h0,h1,h2,h3]; done)
       ·try simp (maxSteps:=9^9) only[go_sem,e0,e1,d0,d1,d2]
        repeat refine And.intro (by first|omega|(constructor<;>omega)|kernel_rfl) ?_
        refine CallW.mk (s2) ?_
        try simp (maxSteps:=9^9) only[go_sem]
        all_goals first|omega|(simp [q0,q1,h0,h1,h2]; done)
      ·have d2:=decide_eq_false h2
       try simp (maxSteps:=9^9) only[go_sem,e0,e1,d0,d1,d2]
       by_cases h3:z3=0
       ·have d3:=decide_eq_true h3
        cases t3:g3<;>rw [t3] at s3
        ·try simp (maxSteps:=9^9) only[go_sem,e0,e1,d0,d1,d2,d3]
         repeat refine And.intro (by first|omega|(constructor<;>omega)|kernel_rfl) ?_
         refine CallW.mk (s3) ?_
         try simp (maxSteps:=9^9) only[go_sem]
         all_goals first|omega|(simp [q0,q1,h0,h1,h2,h3]; done)
        ·try simp (maxSteps:=9^9) only[go_sem,e0,e1,d0,d1,d2,d3]
         repeat refine And.intro (by first|omega|(constructor<;>omega)|kernel_rfl) ?_
         refine CallW.mk (s3) ?_
         try simp (maxSteps:=9^9) only[go_sem]
         all_goals first|omega|(simp [q0,q1,h0,h1,h2,h3]; done)
       ·have d3:=decide_eq_false h3
        try simp (maxSteps:=9^9) only[go_sem,e0,e1,d0,d1,d2,d3]
        all_goals first|omega|(simp [q0,q1,h0,h1,h2,h3]; done)
     ·try simp (maxSteps:=9^9) only[go_sem,e0,e1,d0,d1]
      repeat refine And.intro (by first|omega|(constructor<;>omega)|kernel_rfl) ?_
      refine CallW.mk (s1) ?_
      try simp (maxSteps:=9^9) only[go_sem]
      all_goals first|omega|(simp [q0,q1,h0,h1]; done)
    ·have d1:=decide_eq_false h1
     try simp (maxSteps:=9^9) only[go_sem,e0,e1,d0,d1]
     by_cases h2:z2=0
     ·have d2:=decide_eq_true h2
      cases t2:g2<;>rw [t2] at s2
      ·try simp (maxSteps:=9^9) only[go_sem,e0,e1,d0,d1,d2]
       repeat refine And.intro (by first|omega|(constructor<;>omega)|kernel_rfl) ?_
       refine CallW.mk (s2) ?_
       try simp (maxSteps:=9^9) only[go_sem]
       by_cases h3:z3=0
       ·have d3:=decide_eq_true h3
        cases t3:g3<;>rw [t3] at s3
        ·try simp (maxSteps:=9^9) only[go_sem,e0,e1,d0,d1,d2,d3]
         repeat refine And.intro (by first|omega|(constructor<;>omega)|kernel_rfl) ?_
         refine CallW.mk (s3) ?_
         try simp (maxSteps:=9^9) only[go_sem]
         all_goals first|omega|(simp [q0,q1,h0,h1,h2,h3]; done)
        ·try simp (maxSteps:=9^9) only[go_sem,e0,e1,d0,d1,d2,d3]
         repeat refine And.intro (by first|omega|(constructor<;>omega)|kernel_rfl) ?_
         refine CallW.mk (s3) ?_
         try simp (maxSteps:=9^9) only[go_sem]
         all_goals first|omega|(simp [q0,q1,h0,h1,h2,h3]; done)
       ·have d3:=decide_eq_false h3
        try simp (maxSteps:=9^9) only[go_sem,e0,e1,d0,d1,d2,d3]
        all_goals first|omega|(simp [q0,q1,h0,h1,h2,h3]; done)
      ·try simp (maxSteps:=9^9) only[go_sem,e0,e1,d0,d1,d2]
       repeat refine And.intro (by first|omega|(constructor<;>omega)|kernel_rfl) ?_
       refine CallW.mk (s2) ?_
       try simp (maxSteps:=9^9) only[go_sem]
       all_goals first|omega|(simp [q0,q1,h0,h1,h2]; done)
     ·have d2:=decide_eq_false h2
      try simp (maxSteps:=9^9) only[go_sem,e0,e1,d0,d1,d2]
      by_cases h3:z3=0
      ·have d3:=decide_eq_true h3
       cases t3:g3<;>rw [t3] at s3
       ·try simp (maxSteps:=9^9) only[go_sem,e0,e1,d0,d1,d2,d3]
        repeat refine And.intro (by first|omega|(constructor<;>omega)|kernel_rfl) ?_
        refine CallW.mk (s3) ?_
        try simp (maxSteps:=9^9) only[go_sem]
        all_goals first|omega|(simp [q0,q1,h0,h1,h2,h3]; done)
       ·try simp (maxSteps:=9^9) only[go_sem,e0,e1,d0,d1,d2,d3]
        repeat refine And.intro (by first|omega|(constructor<;>omega)|kernel_rfl) ?_
        refine CallW.mk (s3) ?_
        try simp (maxSteps:=9^9) only[go_sem]
        all_goals first|omega|(simp [q0,q1,h0,h1,h2,h3]; done)
      ·have d3:=decide_eq_false h3
       try simp (maxSteps:=9^9) only[go_sem,e0,e1,d0,d1,d2,d3]
       all_goals first|omega|(simp [q0,q1,h0,h1,h2,h3]; done)
 ·have e0:=decide_eq_false q0
  try simp (maxSteps:=9^9) only[go_sem,e0]
  repeat refine And.intro (by first|omega|(constructor<;>omega)|kernel_rfl) ?_
  by_cases h0:z0=0
  ·have d0:=decide_eq_true h0
   cases t0:g0<;>rw [t0] at s0
   ·try simp (maxSteps:=9^9) only[go_sem,e0,d0]
    repeat refine And.intro (by first|omega|(constructor<;>omega)|kernel_rfl) ?_
    refine CallW.mk (s0) ?_
    try simp (maxSteps:=9^9) only[go_sem]
    by_cases h1:z1=0
    ·have d1:=decide_eq_true h1
     cases t1:g1<;>rw [t1] at s1
     ·try simp (maxSteps:=9^9) only[go_sem,e0,d0,d1]
      repeat refine And.intro (by first|omega|(constructor<;>omega)|kernel_rfl) ?_
      refine CallW.mk (s1) ?_
      try simp (maxSteps:=9^9) only[go_sem]
      by_cases h2:z2=0
      ·have d2:=decide_eq_true h2
       cases t2:g2<;>rw [t2] at s2
       ·try simp (maxSteps:=9^9) only[go_sem,e0,d0,d1,d2]
        repeat refine And.intro (by first|omega|(constructor<;>omega)|kernel_rfl) ?_
        refine CallW.mk (s2) ?_
        try simp (maxSteps:=9^9) only[go_sem]
        by_cases h3:z3=0
        ·have d3:=decide_eq_true h3
         cases t3:g3<;>rw [t3] at s3
         ·try simp (maxSteps:=9^9) only[go_sem,e0,d0,d1,d2,d3]
          repeat refine And.intro (by first|omega|(constructor<;>omega)|kernel_rfl) ?_
          refine CallW.mk (s3) ?_
          try simp (maxSteps:=9^9) only[go_sem]
          all_goals first|omega|(simp [q0,h0,h1,h2,h3]; done)
         ·try simp (maxSteps:=9^9) only[go_sem,e0,d0,d1,d2,d3]
          repeat refine And.intro (by first|omega|(constructor<;>omega)|kernel_rfl) ?_
          refine CallW.mk (s3) ?_
          try simp (maxSteps:=9^9) only[go_sem]
          all_goals first|omega|(simp [q0,h0,h1,h2,h3]; done)
        ·have d3:=decide_eq_false h3
         try simp (maxSteps:=9^9) only[go_sem,e0,d0,d1,d2,d3]
         all_goals first|omega|(simp [q0,h0,h1,h2,h3]; done)
       ·try simp (maxSteps:=9^9) only[go_sem,e0,d0,d1,d2]
        repeat refine And.intro (by first|omega|(constructor<;>omega)|kernel_rfl) ?_
        refine CallW.mk (s2) ?_
        try simp (maxSteps:=9^9) only[go_sem]
        all_goals first|omega|(simp [q0,h0,h1,h2]; done)
      ·have d2:=decide_eq_false h2
       try simp (maxSteps:=9^9) only[go_sem,e0,d0,d1,d2]
       by_cases h3:z3=0
       ·have d3:=decide_eq_true h3
        cases t3:g3<;>rw [t3] at s3
        ·try simp (maxSteps:=9^9) only[go_sem,e0,d0,d1,d2,d3]
         repeat refine And.intro (by first|omega|(constructor<;>omega)|kernel_rfl) ?_
         refine CallW.mk (s3) ?_
         try simp (maxSteps:=9^9) only[go_sem]
         all_goals first|omega|(simp [q0,h0,h1,h2,h3]; done)
        ·try simp (maxSteps:=9^9) only[go_sem,e0,d0,d1,d2,d3]
         repeat refine And.intro (by first|omega|(constructor<;>omega)|kernel_rfl) ?_
         refine CallW.mk (s3) ?_
         try simp (maxSteps:=9^9) only[go_sem]
         all_goals first|omega|(simp [q0,h0,h1,h2,h3]; done)
       ·have d3:=decide_eq_false h3
        try simp (maxSteps:=9^9) only[go_sem,e0,d0,d1,d2,d3]
        all_goals first|omega|(simp [q0,h0,h1,h2,h3]; done)
     ·try simp (maxSteps:=9^9) only[go_sem,e0,d0,d1]
      repeat refine And.intro (by first|omega|(constructor<;>omega)|kernel_rfl) ?_
      refine CallW.mk (s1) ?_
      try simp (maxSteps:=9^9) only[go_sem]
      all_goals first|omega|(simp [q0,h0,h1]; done)
    ·have d1:=decide_eq_false h1
     try simp (maxSteps:=9^9) only[go_sem,e0,d0,d1]
     by_cases h2:z2=0
     ·have d2:=decide_eq_true h2
      cases t2:g2<;>rw [t2] at s2
      ·try simp (maxSteps:=9^9) only[go_sem,e0,d0,d1,d2]
       repeat refine And.intro (by first|omega|(constructor<;>omega)|kernel_rfl) ?_
       refine CallW.mk (s2) ?_
       try simp (maxSteps:=9^9) only[go_sem]
       by_cases h3:z3=0
       ·have d3:=decide_eq_true h3
        cases t3:g3<;>rw [t3] at s3
        ·try simp (maxSteps:=9^9) only[go_sem,e0,d0,d1,d2,d3]
         repeat refine And.intro (by first|omega|(constructor<;>omega)|kernel_rfl) ?_
         refine CallW.mk (s3) ?_
         try simp (maxSteps:=9^9) only[go_sem]
         all_goals first|omega|(simp [q0,h0,h1,h2,h3]; done)
        ·try simp (maxSteps:=9^9) only[go_sem,e0,d0,d1,d2,d3]
         repeat refine And.intro (by first|omega|(constructor<;>omega)|kernel_rfl) ?_
         refine CallW.mk (s3) ?_
         try simp (maxSteps:=9^9) only[go_sem]
         all_goals first|omega|(simp [q0,h0,h1,h2,h3]; done)
       ·have d3:=decide_eq_false h3
        try simp (maxSteps:=9^9) only[go_sem,e0,d0,d1,d2,d3]
        all_goals first|omega|(simp [q0,h0,h1,h2,h3]; done)
      ·try simp (maxSteps:=9^9) only[go_sem,e0,d0,d1,d2]
       repeat refine And.intro (by first|omega|(constructor<;>omega)|kernel_rfl) ?_
       refine CallW.mk (s2) ?_
       try simp (maxSteps:=9^9) only[go_sem]
       all_goals first|omega|(simp [q0,h0,h1,h2]; done)
     ·have d2:=decide_eq_false h2
      try simp (maxSteps:=9^9) only[go_sem,e0,d0,d1,d2]
      by_cases h3:z3=0
      ·have d3:=decide_eq_true h3
       cases t3:g3<;>rw [t3] at s3
       ·try simp (maxSteps:=9^9) only[go_sem,e0,d0,d1,d2,d3]
        repeat refine And.intro (by first|omega|(constructor<;>omega)|kernel_rfl) ?_
        refine CallW.mk (s3) ?_
        try simp (maxSteps:=9^9) only[go_sem]
        all_goals first|omega|(simp [q0,h0,h1,h2,h3]; done)
       ·try simp (maxSteps:=9^9) only[go_sem,e0,d0,d1,d2,d3]
        repeat refine And.intro (by first|omega|(constructor<;>omega)|kernel_rfl) ?_
        refine CallW.mk (s3) ?_
        try simp (maxSteps:=9^9) only[go_sem]
        all_goals first|omega|(simp [q0,h0,h1,h2,h3]; done)
      ·have d3:=decide_eq_false h3
       try simp (maxSteps:=9^9) only[go_sem,e0,d0,d1,d2,d3]
       all_goals first|omega|(simp [q0,h0,h1,h2,h3]; done)
   ·try simp (maxSteps:=9^9) only[go_sem,e0,d0]
    repeat refine And.intro (by first|omega|(constructor<;>omega)|kernel_rfl) ?_
    refine CallW.mk (s0) ?_
    try simp (maxSteps:=9^9) only[go_sem]
    all_goals first|omega|(simp [q0,h0]; done)
  ·have d0:=decide_eq_false h0
   try simp (maxSteps:=9^9) only[go_sem,e0,d0]
   by_cases h1:z1=0
   ·have d1:=decide_eq_true h1
    cases t1:g1<;>rw [t1] at s1
    ·try simp (maxSteps:=9^9) only[go_sem,e0,d0,d1]
     repeat refine And.intro (by first|omega|(constructor<;>omega)|kernel_rfl) ?_
     refine CallW.mk (s1) ?_
     try simp (maxSteps:=9^9) only[go_sem]
     by_cases h2:z2=0
     ·have d2:=decide_eq_true h2
      cases t2:g2<;>rw [t2] at s2
      ·try simp (maxSteps:=9^9) only[go_sem,e0,d0,d1,d2]
       repeat refine And.intro (by first|omega|(constructor<;>omega)|kernel_rfl) ?_
       refine CallW.mk (s2) ?_
       try simp (maxSteps:=9^9) only[go_sem]
       by_cases h3:z3=0
       ·have d3:=decide_eq_true h3
        cases t3:g3<;>rw [t3] at s3
        ·try simp (maxSteps:=9^9) only[go_sem,e0,d0,d1,d2,d3]
         repeat refine And.intro (by first|omega|(constructor<;>omega)|kernel_rfl) ?_
         refine CallW.mk (s3) ?_
         try simp (maxSteps:=9^9) only[go_sem]
         all_goals first|omega|(simp [q0,h0,h1,h2,h3]; done)
        ·try simp (maxSteps:=9^9) only[go_sem,e0,d0,d1,d2,d3]
         repeat refine And.intro (by first|omega|(constructor<;>omega)|kernel_rfl) ?_
         refine CallW.mk (s3) ?_
         try simp (maxSteps:=9^9) only[go_sem]
         all_goals first|omega|(simp [q0,h0,h1,h2,h3]; done)
       ·have d3:=decide_eq_false h3
        try simp (maxSteps:=9^9) only[go_sem,e0,d0,d1,d2,d3]
        all_goals first|omega|(simp [q0,h0,h1,h2,h3]; done)
      ·try simp (maxSteps:=9^9) only[go_sem,e0,d0,d1,d2]
       repeat refine And.intro (by first|omega|(constructor<;>omega)|kernel_rfl) ?_
       refine CallW.mk (s2) ?_
       try simp (maxSteps:=9^9) only[go_sem]
       all_goals first|omega|(simp [q0,h0,h1,h2]; done)
     ·have d2:=decide_eq_false h2
      try simp (maxSteps:=9^9) only[go_sem,e0,d0,d1,d2]
      by_cases h3:z3=0
      ·have d3:=decide_eq_true h3
       cases t3:g3<;>rw [t3] at s3
       ·try simp (maxSteps:=9^9) only[go_sem,e0,d0,d1,d2,d3]
        repeat refine And.intro (by first|omega|(constructor<;>omega)|kernel_rfl) ?_
        refine CallW.mk (s3) ?_
        try simp (maxSteps:=9^9) only[go_sem]
        all_goals first|omega|(simp [q0,h0,h1,h2,h3]; done)
       ·try simp (maxSteps:=9^9) only[go_sem,e0,d0,d1,d2,d3]
        repeat refine And.intro (by first|omega|(constructor<;>omega)|kernel_rfl) ?_
        refine CallW.mk (s3) ?_
        try simp (maxSteps:=9^9) only[go_sem]
        all_goals first|omega|(simp [q0,h0,h1,h2,h3]; done)
      ·have d3:=decide_eq_false h3
       try simp (maxSteps:=9^9) only[go_sem,e0,d0,d1,d2,d3]
       all_goals first|omega|(simp [q0,h0,h1,h2,h3]; done)
    ·try simp (maxSteps:=9^9) only[go_sem,e0,d0,d1]
     repeat refine And.intro (by first|omega|(constructor<;>omega)|kernel_rfl) ?_
     refine CallW.mk (s1) ?_
     try simp (maxSteps:=9^9) only[go_sem]
     all_goals first|omega|(simp [q0,h0,h1]; done)
   ·have d1:=decide_eq_false h1
    try simp (maxSteps:=9^9) only[go_sem,e0,d0,d1]
    by_cases h2:z2=0
    ·have d2:=decide_eq_true h2
     cases t2:g2<;>rw [t2] at s2
     ·try simp (maxSteps:=9^9) only[go_sem,e0,d0,d1,d2]
      repeat refine And.intro (by first|omega|(constructor<;>omega)|kernel_rfl) ?_
      refine CallW.mk (s2) ?_
      try simp (maxSteps:=9^9) only[go_sem]
      by_cases h3:z3=0
      ·have d3:=decide_eq_true h3
       cases t3:g3<;>rw [t3] at s3
       ·try simp (maxSteps:=9^9) only[go_sem,e0,d0,d1,d2,d3]
        repeat refine And.intro (by first|omega|(constructor<;>omega)|kernel_rfl) ?_
        refine CallW.mk (s3) ?_
        try simp (maxSteps:=9^9) only[go_sem]
        all_goals first|omega|(simp [q0,h0,h1,h2,h3]; done)
       ·try simp (maxSteps:=9^9) only[go_sem,e0,d0,d1,d2,d3]
        repeat refine And.intro (by first|omega|(constructor<;>omega)|kernel_rfl) ?_
        refine CallW.mk (s3) ?_
        try simp (maxSteps:=9^9) only[go_sem]
        all_goals first|omega|(simp [q0,h0,h1,h2,h3]; done)
      ·have d3:=decide_eq_false h3
       try simp (maxSteps:=9^9) only[go_sem,e0,d0,d1,d2,d3]
       all_goals first|omega|(simp [q0,h0,h1,h2,h3]; done)
     ·try simp (maxSteps:=9^9) only[go_sem,e0,d0,d1,d2]
      repeat refine And.intro (by first|omega|(constructor<;>omega)|kernel_rfl) ?_
      refine CallW.mk (s2) ?_
      try simp (maxSteps:=9^9) only[go_sem]
      all_goals first|omega|(simp [q0,h0,h1,h2]; done)
    ·have d2:=decide_eq_false h2
     try simp (maxSteps:=9^9) only[go_sem,e0,d0,d1,d2]
     by_cases h3:z3=0
     ·have d3:=decide_eq_true h3
      cases t3:g3<;>rw [t3] at s3
      ·try simp (maxSteps:=9^9) only[go_sem,e0,d0,d1,d2,d3]
       repeat refine And.intro (by first|omega|(constructor<;>omega)|kernel_rfl) ?_
       refine CallW.mk (s3) ?_
       try simp (maxSteps:=9^9) only[go_sem]
       all_goals first|omega|(simp [q0,h0,h1,h2,h3]; done)
      ·try simp (maxSteps:=9^9) only[go_sem,e0,d0,d1,d2,d3]
       repeat refine And.intro (by first|omega|(constructor<;>omega)|kernel_rfl) ?_
       refine CallW.mk (s3) ?_
       try simp (maxSteps:=9^9) only[go_sem]
       all_goals first|omega|(simp [q0,h0,h1,h2,h3]; done)
     ·have d3:=decide_eq_false h3
      try simp (maxSteps:=9^9) only[go_sem,e0,d0,d1,d2,d3]
      all_goals first|omega|(simp [q0,h0,h1,h2,h3]; done)
end Go.Proofs.YtffdhjnbppagjaaGreat.DW

namespace Go.Proofs.YtffdhjnbppagjaaGreat.DW
open Go.RowKit
noncomputable def smI_ (l:List DV) (p q:DP) (i:Nat):Bool:=meetB p q (ptV (nth (t:=tVec) l i)) (ptV (nth (t:=tVec) l (nxt l.length i).toNat))
def smAny (l:List DV) (p q:DP):Prop:=∃ i,i < l.length/\smI_ l p q i=true
noncomputable def segB (l:List DV) (p q:DP):Bool:=decide (cntI l p l.length ≥ 0) || (decide (cntI l q l.length ≥ 0) || bdec (smAny l p q))
theorem segmentMeets_fn (l:List DV) (p q:DP) (hl:polyP l) (hp:okPt p=true) (hq:okPt q=true):Fn Tryz.prog 210 [⟨.slice tVec,l⟩,⟨tPoint,p⟩,⟨tPoint,q⟩] false [⟨.bool,segB l p q⟩]:=by
 have h3:3<=l.length:=by have:=hl.1.1; omega
 have hn:l.length<=1048576:=by have:=hl.1.2; omega
 have c1:=contains_fn l p hl.2.1 hn hp
 have c2:=contains_fn l q hl.2.1 hn hq
 have c3:=pointsOf_fn l hn
 have hml:(l.map ptV).length=l.length:=List.length_map ..
 have ptok:∀ i,i < l.length->okPt (ptV (nth (t:=tVec) l i))=true:=fun i hi=>okPt_ptV (hl.2.1 _ (nth_mem hi))
 unfold segB
 by_cases h1:cntI l p l.length ≥ 0
 ·have d1:=decide_eq_true h1
  rw [d1]
  refine fn_enter tabOK mixes Tryz.func210 rfl rfl _ Tryz.ntmps210 _ Tryz.results210 (by simp) fun hwf=>?_
  try simp (maxSteps:=9^9) only[go_sem]
  repeat refine And.intro (by first|omega|(constructor<;>omega)|kernel_rfl) ?_
  refine CallW.mk (c1) ?_
  try simp (maxSteps:=9^9) only[go_sem]
  try simp (maxSteps:=9^9) only[go_sem,d1]
  all_goals repeat refine And.intro (by first|omega|(constructor<;>omega)|kernel_rfl) ?_
  all_goals first|kernel_rfl|omega|rfl
 ·have d1:=decide_eq_false h1
  rw [d1]
  by_cases h2:cntI l q l.length ≥ 0
  ·have d2:=decide_eq_true h2
   rw [d2]
   refine fn_enter tabOK mixes Tryz.func210 rfl rfl _ Tryz.ntmps210 _ Tryz.results210 (by simp) fun hwf=>?_
   try simp (maxSteps:=9^9) only[go_sem]
   repeat refine And.intro (by first|omega|(constructor<;>omega)|kernel_rfl) ?_
   refine CallW.mk (c1) ?_
   try simp (maxSteps:=9^9) only[go_sem]
   try simp (maxSteps:=9^9) only[go_sem,d1]
   repeat refine And.intro (by first|omega|(constructor<;>omega)|kernel_rfl) ?_
   refine CallW.mk (c2) ?_
   try simp (maxSteps:=9^9) only[go_sem]
   try simp (maxSteps:=9^9) only[go_sem,d2]
   all_goals repeat refine And.intro (by first|omega|(constructor<;>omega)|kernel_rfl) ?_
   all_goals first|kernel_rfl|omega|rfl
  ·have d2:=decide_eq_false h2
   rw [d2]
   refine fn_enter tabOK mixes Tryz.func210 rfl rfl _ Tryz.ntmps210 _ Tryz.results210 (by simp) fun hwf=>?_
   try simp (maxSteps:=9^9) only[go_sem]
   repeat refine And.intro (by first|omega|(constructor<;>omega)|kernel_rfl) ?_
   refine CallW.mk (c1) ?_
   try simp (maxSteps:=9^9) only[go_sem]
   try simp (maxSteps:=9^9) only[go_sem,d1]
   repeat refine And.intro (by first|omega|(constructor<;>omega)|kernel_rfl) ?_
   refine CallW.mk (c2) ?_
   try simp (maxSteps:=9^9) only[go_sem]
   try simp (maxSteps:=9^9) only[go_sem,d2]
   repeat refine And.intro (by first|omega|(constructor<;>omega)|kernel_rfl) ?_
   refine CallW.mk (c3) ?_
   try simp (maxSteps:=9^9) only[go_sem]
   try simp (maxSteps:=9^9) only[go_sem,hml]
   refine LoopG.intro _ _ _ (fun i:Nat=>⟨[(4,.ptr 0 0),(5,.ptr 1 0),(7,.sl tPoint (l.map ptV)),(22,.sl tPoint (l.map ptV)),(23,.sc (.int .i64 l.length)),(24,.sc (.int .i64 i))],[(1,.box (cel tPoint q)),(0,.box (cel tPoint p))]⟩) (fun i=>∀ j,j < i->j < l.length->smI_ l p q j=false) (fun i=>l.length - i) 0 ?_ (fun j h=>absurd h (Nat.not_lt_zero _)) ?_
   ·refine Wk.mk [] ?_
    try simp (maxSteps:=9^9) only[go_sem]
    try (and_intros<;>first|rfl|omega|exact ⟨_,rfl⟩)
   ·rintro i hi
    try simp (maxSteps:=9^9) only[go_sem]
    refine CondW_dec (fun hA=>?_) (fun hA=>?_)
    ·have hlt:i < l.length:=by omega
     have hr:=nxt_rng (n:=l.length) (i:=i) (by omega)
     have hr2:(nxt l.length i).toNat < l.length:=by omega
     have c4:=meet_fn p q (ptV (nth (t:=tVec) l i)) (ptV (nth (t:=tVec) l (nxt l.length i).toNat)) hp hq (ptok _ (by omega)) (ptok _ hr2)
     rw [show meetB p q (ptV (nth (t:=tVec) l i)) (ptV (nth (t:=tVec) l (nxt l.length i).toNat))=smI_ l p q i from rfl] at c4
     rw [<-nth_ptV hlt,<-nth_ptV hr2] at c4
     unfold nxt at hr hr2 c4
     cases hs:smI_ l p q i<;>rw [hs] at c4
     ·try simp (maxSteps:=9^9) only[go_sem,hml]
      repeat refine And.intro (by first|omega|(constructor<;>omega)|kernel_rfl) ?_
      refine RemW.pos (by omega) (by omega) ?_
      try simp (maxSteps:=9^9) only[go_sem,hml]
      repeat refine And.intro (by first|omega|(constructor<;>omega)|kernel_rfl) ?_
      refine CallW.mk (c4) ?_
      try simp (maxSteps:=9^9) only[go_sem]
      repeat refine And.intro (by first|omega|(constructor<;>omega)|kernel_rfl) ?_
      refine LoopK.mk (i+1) ?_ (fun j h1 h2=>?_) (by omega)
      ·refine Wk.mk [] ?_
       try simp (maxSteps:=9^9) only[go_sem]
       try (and_intros<;>first|rfl|omega|exact ⟨_,rfl⟩)
      ·by_cases h:j < i
       ·exact hi j h h2
       ·rw [show j=i by omega]; exact hs
     ·have e:bdec (smAny l p q)=true:=bdec_t ⟨i,hlt,hs⟩
      rw [e]
      try simp (maxSteps:=9^9) only[go_sem,hml]
      repeat refine And.intro (by first|omega|(constructor<;>omega)|kernel_rfl) ?_
      refine RemW.pos (by omega) (by omega) ?_
      try simp (maxSteps:=9^9) only[go_sem,hml]
      repeat refine And.intro (by first|omega|(constructor<;>omega)|kernel_rfl) ?_
      refine CallW.mk (c4) ?_
      try simp (maxSteps:=9^9) only[go_sem]
      all_goals repeat refine And.intro (by first|omega|(constructor<;>omega)|kernel_rfl) ?_
      all_goals first|kernel_rfl|omega|rfl
    ·have e:bdec (smAny l p q)=false:=bdec_f (by rintro ⟨j,h1,h2⟩; rw [hi j (by omega) h1] at h2; cases h2)
     rw [e]
     try simp (maxSteps:=9^9) only[go_sem]
     all_goals repeat refine And.intro (by first|omega|(constructor<;>omega)|kernel_rfl) ?_
     all_goals first|kernel_rfl|omega|rfl
noncomputable def sgmB (l:List DV) (p q:DP):Bool:=okPt p && (okPt q && segB l p q)
theorem SegmentMeetsS_fn (l:List DV) (p q:DP) (hl:polyP l):Fn Tryz.prog 159 [⟨.slice tVec,l⟩,⟨tPoint,p⟩,⟨tPoint,q⟩] false [⟨.bool,sgmB l p q⟩]:=by
 have h3:3<=l.length:=by have:=hl.1.1; omega
 have hn:l.length<=1048576:=by have:=hl.1.2; omega
 have c0:=specIsPolygon_fn l
 rw [polyB_t hl] at c0
 have v1:=specIsValidPoint_fn p
 have v2:=specIsValidPoint_fn q
 have ptok:∀ i,i < l.length->okPt (ptV (nth (t:=tVec) l i))=true:=fun i hi=>okPt_ptV (hl.2.1 _ (nth_mem hi))
 unfold sgmB
 cases hp:okPt p<;>rw [hp] at v1
 ·refine fn_enter tabOK mixes Tryz.func159 rfl rfl _ Tryz.ntmps159 _ Tryz.results159 (by simp) fun hwf=>?_
  try simp (maxSteps:=9^9) only[go_sem]
  repeat refine And.intro (by first|omega|(constructor<;>omega)|kernel_rfl) ?_
  refine CallW.mk (c0) ?_
  try simp (maxSteps:=9^9) only[go_sem]
  repeat refine And.intro (by first|omega|(constructor<;>omega)|kernel_rfl) ?_
  refine CallW.mk (v1) ?_
  try simp (maxSteps:=9^9) only[go_sem]
  all_goals repeat refine And.intro (by first|omega|(constructor<;>omega)|kernel_rfl) ?_
  all_goals first|kernel_rfl|omega|rfl
 ·cases hq:okPt q<;>rw [hq] at v2
  ·refine fn_enter tabOK mixes Tryz.func159 rfl rfl _ Tryz.ntmps159 _ Tryz.results159 (by simp) fun hwf=>?_
   try simp (maxSteps:=9^9) only[go_sem]
   repeat refine And.intro (by first|omega|(constructor<;>omega)|kernel_rfl) ?_
   refine CallW.mk (c0) ?_
   try simp (maxSteps:=9^9) only[go_sem]
   repeat refine And.intro (by first|omega|(constructor<;>omega)|kernel_rfl) ?_
   refine CallW.mk (v1) ?_
   try simp (maxSteps:=9^9) only[go_sem]
   repeat refine And.intro (by first|omega|(constructor<;>omega)|kernel_rfl) ?_
   refine CallW.mk (v2) ?_
   try simp (maxSteps:=9^9) only[go_sem]
   all_goals repeat refine And.intro (by first|omega|(constructor<;>omega)|kernel_rfl) ?_
   all_goals first|kernel_rfl|omega|rfl
  ·have c1:=ContainsS_fn l p hl
   have c2:=ContainsS_fn l q hl
   rw [show cpD l p=cntI l p l.length by unfold cpD; rw [hp,if_pos rfl]] at c1
   rw [show cpD l q=cntI l q l.length by unfold cpD; rw [hq,if_pos rfl]] at c2
   unfold segB
   by_cases h1:cntI l p l.length ≥ 0
   ·have d1:=decide_eq_true h1
    rw [d1]
    refine fn_enter tabOK mixes Tryz.func159 rfl rfl _ Tryz.ntmps159 _ Tryz.results159 (by simp) fun hwf=>?_
    try simp (maxSteps:=9^9) only[go_sem]
    repeat refine And.intro (by first|omega|(constructor<;>omega)|kernel_rfl) ?_
    refine CallW.mk (c0) ?_
    try simp (maxSteps:=9^9) only[go_sem]
    repeat refine And.intro (by first|omega|(constructor<;>omega)|kernel_rfl) ?_
    refine CallW.mk (v1) ?_
    try simp (maxSteps:=9^9) only[go_sem]
    repeat refine And.intro (by first|omega|(constructor<;>omega)|kernel_rfl) ?_
    refine CallW.mk (v2) ?_
    try simp (maxSteps:=9^9) only[go_sem]
    repeat refine And.intro (by first|omega|(constructor<;>omega)|kernel_rfl) ?_
    refine CallW.mk (c1) ?_
    try simp (maxSteps:=9^9) only[go_sem]
    try simp (maxSteps:=9^9) only[go_sem,d1]
    all_goals repeat refine And.intro (by first|omega|(constructor<;>omega)|kernel_rfl) ?_
    all_goals first|kernel_rfl|omega|rfl
   ·have d1:=decide_eq_false h1
    rw [d1]
    by_cases h2:cntI l q l.length ≥ 0
    ·have d2:=decide_eq_true h2
     rw [d2]
     refine fn_enter tabOK mixes Tryz.func159 rfl rfl _ Tryz.ntmps159 _ Tryz.results159 (by simp) fun hwf=>?_
     try simp (maxSteps:=9^9) only[go_sem]
     repeat refine And.intro (by first|omega|(constructor<;>omega)|kernel_rfl) ?_
     refine CallW.mk (c0) ?_
     try simp (maxSteps:=9^9) only[go_sem]
     repeat refine And.intro (by first|omega|(constructor<;>omega)|kernel_rfl) ?_
     refine CallW.mk (v1) ?_
     try simp (maxSteps:=9^9) only[go_sem]
     repeat refine And.intro (by first|omega|(constructor<;>omega)|kernel_rfl) ?_
     refine CallW.mk (v2) ?_
     try simp (maxSteps:=9^9) only[go_sem]
     repeat refine And.intro (by first|omega|(constructor<;>omega)|kernel_rfl) ?_
     refine CallW.mk (c1) ?_
     try simp (maxSteps:=9^9) only[go_sem]
     try simp (maxSteps:=9^9) only[go_sem,d1]
     repeat refine And.intro (by first|omega|(constructor<;>omega)|kernel_rfl) ?_
     refine CallW.mk (c2) ?_
     try simp (maxSteps:=9^9) only[go_sem]
     try simp (maxSteps:=9^9) only[go_sem,d2]
     all_goals repeat refine And.intro (by first|omega|(constructor<;>omega)|kernel_rfl) ?_
     all_goals first|kernel_rfl|omega|rfl
    ·have d2:=decide_eq_false h2
     rw [d2]
     refine fn_enter tabOK mixes Tryz.func159 rfl rfl _ Tryz.ntmps159 _ Tryz.results159 (by simp) fun hwf=>?_
     try simp (maxSteps:=9^9) only[go_sem]
     repeat refine And.intro (by first|omega|(constructor<;>omega)|kernel_rfl) ?_
     refine CallW.mk (c0) ?_
     try simp (maxSteps:=9^9) only[go_sem]
     repeat refine And.intro (by first|omega|(constructor<;>omega)|kernel_rfl) ?_
     refine CallW.mk (v1) ?_
     try simp (maxSteps:=9^9) only[go_sem]
     repeat refine And.intro (by first|omega|(constructor<;>omega)|kernel_rfl) ?_
     refine CallW.mk (v2) ?_
     try simp (maxSteps:=9^9) only[go_sem]
     repeat refine And.intro (by first|omega|(constructor<;>omega)|kernel_rfl) ?_
     refine CallW.mk (c1) ?_
     try simp (maxSteps:=9^9) only[go_sem]
     try simp (maxSteps:=9^9) only[go_sem,d1]
     repeat refine And.intro (by first|omega|(constructor<;>omega)|kernel_rfl) ?_
     refine CallW.mk (c2) ?_
     try simp (maxSteps:=9^9) only[go_sem]
     try simp (maxSteps:=9^9) only[go_sem,d2]
     refine LoopG.intro _ _ _ (fun i:Nat=>⟨[(0,.sl tVec l),(4,.ptr 0 0),(5,.ptr 1 0),(32,.sl tVec l),(33,.sc (.int .i64 l.length)),(34,.sc (.int .i64 i))],[(1,.box (cel tPoint q)),(0,.box (cel tPoint p))]⟩) (fun i=>∀ j,j < i->j < l.length->smI_ l p q j=false) (fun i=>l.length - i) 0 ?_ (fun j h=>absurd h (Nat.not_lt_zero _)) ?_
     ·refine Wk.mk [] ?_
      try simp (maxSteps:=9^9) only[go_sem]
      try (and_intros<;>first|rfl|omega|exact ⟨_,rfl⟩)
     ·rintro i hi
      try simp (maxSteps:=9^9) only[go_sem]
      refine CondW_dec (fun hA=>?_) (fun hA=>?_)
      ·have hlt:i < l.length:=by omega
       have hr:=nxt_rng (n:=l.length) (i:=i) (by omega)
       have hr2:(nxt l.length i).toNat < l.length:=by omega
       have c3:=PointOfS_fn (nth (t:=tVec) l i)
       have c4:=PointOfS_fn (nth (t:=tVec) l (nxt l.length i).toNat)
       have c5:=SegmentsMeetS_fn (ptV (nth (t:=tVec) l i)) (ptV (nth (t:=tVec) l (nxt l.length i).toNat)) p q (ptok _ (by omega)) (ptok _ hr2) hp hq
       rw [meetB_swap p q,show meetB p q (ptV (nth (t:=tVec) l i)) (ptV (nth (t:=tVec) l (nxt l.length i).toNat))=smI_ l p q i from rfl] at c5
       unfold nxt at hr hr2 c4 c5
       cases hs:smI_ l p q i<;>rw [hs] at c5
       ·try simp (maxSteps:=9^9) only[go_sem]
        repeat refine And.intro (by first|omega|(constructor<;>omega)|kernel_rfl) ?_
        refine CallW.mk (c3) ?_
        try simp (maxSteps:=9^9) only[go_sem]
        repeat refine And.intro (by first|omega|(constructor<;>omega)|kernel_rfl) ?_
        refine RemW.pos (by omega) (by omega) ?_
        try simp (maxSteps:=9^9) only[go_sem]
        repeat refine And.intro (by first|omega|(constructor<;>omega)|kernel_rfl) ?_
        refine CallW.mk (c4) ?_
        try simp (maxSteps:=9^9) only[go_sem]
        repeat refine And.intro (by first|omega|(constructor<;>omega)|kernel_rfl) ?_
        refine CallW.mk (c5) ?_
        try simp (maxSteps:=9^9) only[go_sem]
        repeat refine And.intro (by first|omega|(constructor<;>omega)|kernel_rfl) ?_
        refine LoopK.mk (i+1) ?_ (fun j h1 h2=>?_) (by omega)
        ·refine Wk.mk [] ?_
         try simp (maxSteps:=9^9) only[go_sem]
         try (and_intros<;>first|rfl|omega|exact ⟨_,rfl⟩)
        ·by_cases h:j < i
         ·exact hi j h h2
         ·rw [show j=i by omega]; exact hs
       ·have e:bdec (smAny l p q)=true:=bdec_t ⟨i,hlt,hs⟩
        rw [e]
        try simp (maxSteps:=9^9) only[go_sem]
        repeat refine And.intro (by first|omega|(constructor<;>omega)|kernel_rfl) ?_
        refine CallW.mk (c3) ?_
        try simp (maxSteps:=9^9) only[go_sem]
        repeat refine And.intro (by first|omega|(constructor<;>omega)|kernel_rfl) ?_
        refine RemW.pos (by omega) (by omega) ?_
        try simp (maxSteps:=9^9) only[go_sem]
        repeat refine And.intro (by first|omega|(constructor<;>omega)|kernel_rfl) ?_
        refine CallW.mk (c4) ?_
        try simp (maxSteps:=9^9) only[go_sem]
        repeat refine And.intro (by first|omega|(constructor<;>omega)|kernel_rfl) ?_
        refine CallW.mk (c5) ?_
        try simp (maxSteps:=9^9) only[go_sem]
        all_goals repeat refine And.intro (by first|omega|(constructor<;>omega)|kernel_rfl) ?_
        all_goals first|kernel_rfl|omega|rfl
      ·have e:bdec (smAny l p q)=false:=bdec_f (by rintro ⟨j,h1,h2⟩; rw [hi j (by omega) h1] at h2; cases h2)
       rw [e]
       try simp (maxSteps:=9^9) only[go_sem]
       all_goals repeat refine And.intro (by first|omega|(constructor<;>omega)|kernel_rfl) ?_
       all_goals first|kernel_rfl|omega|rfl
end Go.Proofs.YtffdhjnbppagjaaGreat.DW

namespace Go.Proofs.YtffdhjnbppagjaaGreat.DW
open Go.RowKit
structure ScP (s:DSc):Prop where
 low:inB 200 s.1=true
 high:inB 200 s.2.1=true
 rob:SmP 20 s.2.2.1
 obs:∀ l ∈ s.2.2.2.1,SmP 200 l
 nobs:s.2.2.2.1.length<=4
 ntab:s.2.2.2.2.length<=3
 tabs:∀ v ∈ s.2.2.2.2,inB 200 v=true
 lx:s.1.1 < s.2.1.1
 ly:s.1.2 < s.2.1.2
theorem allIn_all {k:Int} {l:List DV} (h:allIn k l=true):∀ v ∈ l,inB k v=true:=fun v hv=>by
 unfold allIn at h
 rw [Bool.not_eq_true',List.any_eq_false] at h
 simpa using h v hv
theorem scene_p {s:DSc} (h:sceneB s=true):ScP s:=by
 unfold sceneB obsOK at h
 simp only [Bool.and_eq_true] at h
 obtain ⟨h1,h2,h3,h4,h5,h6,h7,h8⟩:=h
 have ha:=allIn_all h1
 refine ⟨ha _ (by simp),ha _ (by simp),smB_p h4,fun l hl=>smB_p ?_,?_,?_,allIn_all h8,of_decide_eq_true h2,of_decide_eq_true h3⟩
 ·rw [Bool.not_eq_true',List.any_eq_false] at h6
  simpa using h6 l hl
 ·have:=of_decide_eq_true h5; omega
 ·have:=of_decide_eq_true h7; omega
def robS (s:DSc) (h:Int):List DV:=s.2.2.1.map (rotN h.toNat)
theorem robS_sm {s:DSc} (hs:sceneB s=true) (h:Int):SmP 20 (robS s h):=(scene_p hs).rob.rot _
def widI (l:List DV):Nat->DV × DV
 | 0=>(nth (t:=tVec) l 0,nth (t:=tVec) l 0)
 | i+1=>((min (widI l i).1.1 (nth (t:=tVec) l i).1,min (widI l i).1.2 (nth (t:=tVec) l i).2),(max (widI l i).2.1 (nth (t:=tVec) l i).1,max (widI l i).2.2 (nth (t:=tVec) l i).2))
theorem widI_b {k:Int} {l:List DV} (h:∀ v ∈ l,inB k v=true) (h0:0 < l.length):∀ i,i<=l.length->((-k<=(widI l i).1.1/\(widI l i).1.1<=k)/\(-k<=(widI l i).1.2/\(widI l i).1.2<=k))/\((-k<=(widI l i).2.1/\(widI l i).2.1<=k)/\(-k<=(widI l i).2.2/\(widI l i).2.2<=k))
 | 0,_=>by
  have:=inB_b (h _ (nth_mem h0))
  unfold widI
  simp only
  omega
 | i+1,hi=>by
  have h1:=widI_b h h0 i (by omega)
  have h2:=inB_b (h _ (nth_mem (i:=i) (by omega)))
  unfold widI
  simp only
  omega
def widD (l:List DV):DV × DV:=widI l l.length
def boxD (s:DSc) (h:Int):DV × DV:=((s.1.1 - (widD (robS s h)).1.1,s.1.2 - (widD (robS s h)).1.2),(s.2.1.1 - (widD (robS s h)).2.1,s.2.1.2 - (widD (robS s h)).2.2))
def hdB (h:Int):Bool:=decide (0<=h/\h<=3)
def limB (s:DSc) (h:Int):Bool:=decide ((boxD s h).1.1 < (boxD s h).2.1) && decide ((boxD s h).1.2 < (boxD s h).2.2)
noncomputable def opnB (s:DSc) (h:Int):Bool:=sceneB s && (hdB h && limB s h)
noncomputable def arsD (s:DSc) (h:Int):List (List DV):=s.2.2.2.1.map (obsD (robS s h))
theorem wid_b {s:DSc} (hs:sceneB s=true) (h:Int):((-20<=(widD (robS s h)).1.1/\(widD (robS s h)).1.1<=20)/\(-20<=(widD (robS s h)).1.2/\(widD (robS s h)).1.2<=20))/\((-20<=(widD (robS s h)).2.1/\(widD (robS s h)).2.1<=20)/\(-20<=(widD (robS s h)).2.2/\(widD (robS s h)).2.2<=20)):=by
 have h1:=robS_sm hs h
 exact widI_b h1.ins (by have:=h1.poly.1.1; omega) _ (Nat.le_refl _)
theorem box_b {s:DSc} (hs:sceneB s=true) (h:Int):((-220<=(boxD s h).1.1/\(boxD s h).1.1<=220)/\(-220<=(boxD s h).1.2/\(boxD s h).1.2<=220))/\((-220<=(boxD s h).2.1/\(boxD s h).2.1<=220)/\(-220<=(boxD s h).2.2/\(boxD s h).2.2<=220)):=by
 have h1:=wid_b hs h
 have h2:=inB_b (scene_p hs).low
 have h3:=inB_b (scene_p hs).high
 unfold boxD
 simp only
 omega
theorem ars_poly {s:DSc} (hs:sceneB s=true) (h:Int):∀ l ∈ arsD s h,polyP l:=fun l hl=>by
 obtain ⟨o,ho,rfl⟩:=List.mem_map.1 hl
 exact obs_poly (robS_sm hs h) ((scene_p hs).obs o ho) (by decide)
theorem ars_len (s:DSc) (h:Int):(arsD s h).length=s.2.2.2.1.length:=List.length_map ..
noncomputable def inBx (b:DV × DV) (p:DP):Bool:=decide (cmpO (rdO p.1) (some ((b.1.1:Int):Rat)) > 0) && (decide (cmpO (rdO p.1) (some ((b.2.1:Int):Rat)) < 0) && (decide (cmpO (rdO p.2) (some ((b.1.2:Int):Rat)) > 0) && decide (cmpO (rdO p.2) (some ((b.2.2:Int):Rat)) < 0)))
noncomputable def freB (s:DSc) (h:Int) (p:DP):Bool:=okPt p && (opnB s h && (inBx (boxD s h) p && !((arsD s h).any fun l=>decide (cpD l p ≥ 0))))
noncomputable def freM (s:DSc) (h:Int) (p q:DP):Bool:=freB s h p && (freB s h q && !((arsD s h).any fun l=>sgmB l p q))
noncomputable def spcD (s:DSc) (h:Int):Bool × ((DV × DV) × List (List DV)):=(opnB s h,(if opnB s h then boxD s h else ((0,0),(0,0)),if sceneB s && hdB h then arsD s h else []))
end Go.Proofs.YtffdhjnbppagjaaGreat.DW

namespace Go.Proofs.YtffdhjnbppagjaaGreat.DW
open Go.RowKit
@[go_sem] theorem bts_VecS:bts Tryz.prog 42=some 24:=by kernel_rfl
end Go.Proofs.YtffdhjnbppagjaaGreat.DW

namespace Go.Proofs.YtffdhjnbppagjaaGreat.DW
open Go.RowKit
theorem RobotAtI_fn (s:DSc) (h:Int) (hs:sceneB s=true) (hh:0<=h/\h<=3):Fn Tryz.prog 142 [⟨tScene,s⟩,⟨.int,h⟩] true [⟨.slice tVec,robS s h⟩]:=by
 have p:=(scene_p hs).rob
 have c1:=IsValidSceneI_fn s
 rw [hs] at c1
 have c2:=isHeading_fn h
 rw [decide_eq_true hh] at c2
 have c3:=TurnPolygonI_fn s.2.2.1 h p.ok (by have:=p.five; omega) hh
 unfold robS
 refine fn_enter tabOK mixes Tryz.func142 rfl rfl _ Tryz.ntmps142 _ Tryz.results142 (by simp) fun hwf=>?_
 try simp (maxSteps:=9^9) only[go_sem]
 repeat refine And.intro (by first|omega|(constructor<;>omega)|kernel_rfl) ?_
 refine CallW.mk (c1) ?_
 try simp (maxSteps:=9^9) only[go_sem]
 repeat refine And.intro (by first|omega|(constructor<;>omega)|kernel_rfl) ?_
 refine CallW.mk (c2) ?_
 try simp (maxSteps:=9^9) only[go_sem]
 repeat refine And.intro (by first|omega|(constructor<;>omega)|kernel_rfl) ?_
 refine CallW.mk (c3) ?_
 try simp (maxSteps:=9^9) only[go_sem]
 all_goals repeat refine And.intro (by first|omega|(constructor<;>omega)|kernel_rfl) ?_
 all_goals first|kernel_rfl|omega|rfl
theorem RobotAtI_nil (s:DSc) (h:Int) (hn:(sceneB s && hdB h)=false):Fn Tryz.prog 142 [⟨tScene,s⟩,⟨.int,h⟩] false [⟨.cst .nil,()⟩]:=by
 have c1:=IsValidSceneI_fn s
 have c2:=isHeading_fn h
 unfold hdB at hn
 cases hs:sceneB s<;>rw [hs] at c1 hn
 ·refine fn_enter tabOK mixes Tryz.func142 rfl rfl _ Tryz.ntmps142 _ Tryz.results142 (by simp) fun hwf=>?_
  try simp (maxSteps:=9^9) only[go_sem]
  repeat refine And.intro (by first|omega|(constructor<;>omega)|kernel_rfl) ?_
  refine CallW.mk (c1) ?_
  try simp (maxSteps:=9^9) only[go_sem]
  all_goals repeat refine And.intro (by first|omega|(constructor<;>omega)|kernel_rfl) ?_
  all_goals first|kernel_rfl|omega|rfl
 ·rw [Bool.true_and] at hn
  rw [hn] at c2
  refine fn_enter tabOK mixes Tryz.func142 rfl rfl _ Tryz.ntmps142 _ Tryz.results142 (by simp) fun hwf=>?_
  try simp (maxSteps:=9^9) only[go_sem]
  repeat refine And.intro (by first|omega|(constructor<;>omega)|kernel_rfl) ?_
  refine CallW.mk (c1) ?_
  try simp (maxSteps:=9^9) only[go_sem]
  repeat refine And.intro (by first|omega|(constructor<;>omega)|kernel_rfl) ?_
  refine CallW.mk (c2) ?_
  try simp (maxSteps:=9^9) only[go_sem]
  all_goals repeat refine And.intro (by first|omega|(constructor<;>omega)|kernel_rfl) ?_
  all_goals first|kernel_rfl|omega|rfl
noncomputable def robN (s:DSc) (h:Int):List DV:=if sceneB s && hdB h then robS s h else []
theorem robN_t {s:DSc} {h:Int} (e:(sceneB s && hdB h)=true):robN s h=robS s h:=if_pos e
theorem robN_f {s:DSc} {h:Int} (e:(sceneB s && hdB h)=false):robN s h=[]:=if_neg (by rw [e]; decide)
theorem RobotAtS_fn (s:DSc) (h:Int):Fn Tryz.prog 149 [⟨tScene,s⟩,⟨.int,h⟩] true [⟨.slice tVec,robN s h⟩]:=by
 have c1:=IsValidSceneS_fn s
 have c2:=l01In_fn h 0 3
 cases hs:sceneB s<;>rw [hs] at c1
 ·rw [robN_f (by rw [hs]; rfl)]
  refine fn_enter tabOK mixes Tryz.func149 rfl rfl _ Tryz.ntmps149 _ Tryz.results149 (by simp) fun hwf=>?_
  try simp (maxSteps:=9^9) only[go_sem]
  repeat refine And.intro (by first|omega|(constructor<;>omega)|kernel_rfl) ?_
  refine CallW.mk (c1) ?_
  try simp (maxSteps:=9^9) only[go_sem]
  all_goals repeat refine And.intro (by first|omega|(constructor<;>omega)|kernel_rfl) ?_
  all_goals first|kernel_rfl|omega|rfl
 ·by_cases hh:0<=h/\h<=3
  ·rw [decide_eq_true hh] at c2
   have p:=(scene_p hs).rob
   have c3:=TurnPolygonS_fn s.2.2.1 h p.ok (by have:=p.five; omega) hh
   rw [robN_t (by rw [hs]; exact decide_eq_true hh)]
   unfold robS
   refine fn_enter tabOK mixes Tryz.func149 rfl rfl _ Tryz.ntmps149 _ Tryz.results149 (by simp) fun hwf=>?_
   try simp (maxSteps:=9^9) only[go_sem]
   repeat refine And.intro (by first|omega|(constructor<;>omega)|kernel_rfl) ?_
   refine CallW.mk (c1) ?_
   try simp (maxSteps:=9^9) only[go_sem]
   repeat refine And.intro (by first|omega|(constructor<;>omega)|kernel_rfl) ?_
   refine CallW.mk (c2) ?_
   try simp (maxSteps:=9^9) only[go_sem]
   repeat refine And.intro (by first|omega|(constructor<;>omega)|kernel_rfl) ?_
   refine CallW.mk (c3) ?_
   try simp (maxSteps:=9^9) only[go_sem]
   all_goals repeat refine And.intro (by first|omega|(constructor<;>omega)|kernel_rfl) ?_
   all_goals first|kernel_rfl|omega|rfl
  ·rw [decide_eq_false hh] at c2
   rw [robN_f (by rw [hs]; exact decide_eq_false hh)]
   refine fn_enter tabOK mixes Tryz.func149 rfl rfl _ Tryz.ntmps149 _ Tryz.results149 (by simp) fun hwf=>?_
   try simp (maxSteps:=9^9) only[go_sem]
   repeat refine And.intro (by first|omega|(constructor<;>omega)|kernel_rfl) ?_
   refine CallW.mk (c1) ?_
   try simp (maxSteps:=9^9) only[go_sem]
   repeat refine And.intro (by first|omega|(constructor<;>omega)|kernel_rfl) ?_
   refine CallW.mk (c2) ?_
   try simp (maxSteps:=9^9) only[go_sem]
   all_goals repeat refine And.intro (by first|omega|(constructor<;>omega)|kernel_rfl) ?_
   all_goals first|kernel_rfl|omega|rfl
theorem widthOfI_fn (l:List DV) (h0:0 < l.length):Fn Tryz.prog 253 [⟨.slice tVec,l⟩] false [⟨tVec,(widD l).1⟩,⟨tVec,(widD l).2⟩]:=by
 refine fn_enter tabOK mixes Tryz.func253 rfl rfl _ Tryz.ntmps253 _ Tryz.results253 (by simp) fun hwf=>?_
 have hl:l.length<=9223372036854775807:=(hwf ⟨.slice tVec,l⟩ (by simp)).1
 try simp (maxSteps:=9^9) only[go_sem]
 repeat refine And.intro (by first|omega|(constructor<;>omega)|kernel_rfl) ?_
 refine LoopG.intro _ _ _ (fun i:Nat=>⟨[(2,.ptr 0 0),(3,.ptr 1 0),(4,.ptr 2 0),(5,.ptr 3 0),(14,.sl tVec l),(15,.sc (.int .i64 l.length)),(16,.sc (.int .i64 i))],[(0,.box [.sc (.int .i64 0),.sc (.int .i64 0)]),(1,.box [.sc (.int .i64 0),.sc (.int .i64 0)]),(2,.box [.sc (.int .i64 (widI l i).1.1),.sc (.int .i64 (widI l i).1.2)]),(3,.box [.sc (.int .i64 (widI l i).2.1),.sc (.int .i64 (widI l i).2.2)])]⟩) (fun i=>i<=l.length) (fun i=>l.length - i) 0 ?_ (Nat.zero_le _) ?_
 ·refine Wk.mk [] ?_
  try simp (maxSteps:=9^9) only[go_sem]
  try (and_intros<;>first|rfl|omega|exact ⟨_,rfl⟩)
 ·rintro i hi
  try simp (maxSteps:=9^9) only[go_sem]
  refine CondW_dec (fun hA=>?_) (fun hA=>?_)
  ·try simp (maxSteps:=9^9) only[go_sem]
   repeat refine And.intro (by first|omega|(constructor<;>omega)|kernel_rfl) ?_
   refine LoopK.mk (i+1) ?_ (by omega) (by omega)
   refine Wk.mk [] ?_
   try simp (maxSteps:=9^9) only[go_sem]
   try (and_intros<;>first|rfl|omega|exact ⟨_,rfl⟩)
  ·rw [show widD l=widI l i by unfold widD; rw [show i=l.length by omega]]
   try simp (maxSteps:=9^9) only[go_sem]
   all_goals repeat refine And.intro (by first|omega|(constructor<;>omega)|kernel_rfl) ?_
   all_goals first|kernel_rfl|omega|rfl
theorem WidthOfS_fn (l:List DV) (hl:polyP l):Fn Tryz.prog 148 [⟨.slice tVec,l⟩] false [⟨tVec,(widD l).1⟩,⟨tVec,(widD l).2⟩,⟨.bool,true⟩]:=by
 have c1:=specIsPolygon_fn l
 rw [polyB_t hl] at c1
 have h0:=hl.1.1
 refine fn_enter tabOK mixes Tryz.func148 rfl rfl _ Tryz.ntmps148 _ Tryz.results148 (by simp) fun hwf=>?_
 have hlm:l.length<=9223372036854775807:=(hwf ⟨.slice tVec,l⟩ (by simp)).1
 try simp (maxSteps:=9^9) only[go_sem]
 repeat refine And.intro (by first|omega|(constructor<;>omega)|kernel_rfl) ?_
 refine CallW.mk (c1) ?_
 try simp (maxSteps:=9^9) only[go_sem]
 repeat refine And.intro (by first|omega|(constructor<;>omega)|kernel_rfl) ?_
 refine LoopG.intro _ _ _ (fun i:Nat=>⟨[(2,.ptr 0 0),(3,.ptr 1 0),(5,.ptr 2 0),(6,.ptr 3 0),(20,.sl tVec l),(21,.sc (.int .i64 l.length)),(22,.sc (.int .i64 i))],[(0,.box [.sc (.int .i64 0),.sc (.int .i64 0)]),(1,.box [.sc (.int .i64 0),.sc (.int .i64 0)]),(2,.box [.sc (.int .i64 (widI l i).1.1),.sc (.int .i64 (widI l i).1.2)]),(3,.box [.sc (.int .i64 (widI l i).2.1),.sc (.int .i64 (widI l i).2.2)])]⟩) (fun i=>i<=l.length) (fun i=>l.length - i) 0 ?_ (Nat.zero_le _) ?_
 ·refine Wk.mk [] ?_
  try simp (maxSteps:=9^9) only[go_sem]
  try (and_intros<;>first|rfl|omega|exact ⟨_,rfl⟩)
 ·rintro i hi
  try simp (maxSteps:=9^9) only[go_sem]
  refine CondW_dec (fun hA=>?_) (fun hA=>?_)
  ·have c2:=l07Min_fn (widI l i).1.1 (nth (t:=tVec) l i).1
   have c3:=l07Min_fn (widI l i).1.2 (nth (t:=tVec) l i).2
   have c4:=l07Max_fn (widI l i).2.1 (nth (t:=tVec) l i).1
   have c5:=l07Max_fn (widI l i).2.2 (nth (t:=tVec) l i).2
   try simp (maxSteps:=9^9) only[go_sem]
   repeat refine And.intro (by first|omega|(constructor<;>omega)|kernel_rfl) ?_
   refine CallW.mk (c2) ?_
   try simp (maxSteps:=9^9) only[go_sem]
   repeat refine And.intro (by first|omega|(constructor<;>omega)|kernel_rfl) ?_
   refine CallW.mk (c3) ?_
   try simp (maxSteps:=9^9) only[go_sem]
   repeat refine And.intro (by first|omega|(constructor<;>omega)|kernel_rfl) ?_
   refine CallW.mk (c4) ?_
   try simp (maxSteps:=9^9) only[go_sem]
   repeat refine And.intro (by first|omega|(constructor<;>omega)|kernel_rfl) ?_
   refine CallW.mk (c5) ?_
   try simp (maxSteps:=9^9) only[go_sem]
   repeat refine And.intro (by first|omega|(constructor<;>omega)|kernel_rfl) ?_
   refine LoopK.mk (i+1) ?_ (by omega) (by omega)
   refine Wk.mk [] ?_
   try simp (maxSteps:=9^9) only[go_sem]
   try (and_intros<;>first|rfl|omega|exact ⟨_,rfl⟩)
  ·rw [show widD l=widI l i by unfold widD; rw [show i=l.length by omega]]
   try simp (maxSteps:=9^9) only[go_sem]
   all_goals repeat refine And.intro (by first|omega|(constructor<;>omega)|kernel_rfl) ?_
   all_goals first|kernel_rfl|omega|rfl
theorem WidthOfS_nil:Fn Tryz.prog 148 [⟨.slice tVec,[]⟩] false [⟨tVec,((0:Int),(0:Int))⟩,⟨tVec,((0:Int),(0:Int))⟩,⟨.bool,false⟩]:=by
 have c1:=specIsPolygon_fn []
 rw [show polyB []=false from bdec_f fun h=>by have:=h.1.1; simp at this] at c1
 refine fn_enter tabOK mixes Tryz.func148 rfl rfl _ Tryz.ntmps148 _ Tryz.results148 (by simp) fun hwf=>?_
 try simp (maxSteps:=9^9) only[go_sem]
 repeat refine And.intro (by first|omega|(constructor<;>omega)|kernel_rfl) ?_
 refine CallW.mk (c1) ?_
 try simp (maxSteps:=9^9) only[go_sem]
 all_goals repeat refine And.intro (by first|omega|(constructor<;>omega)|kernel_rfl) ?_
 all_goals first|kernel_rfl|omega|rfl
theorem robS_len {s:DSc} (hs:sceneB s=true) (h:Int):3<=(robS s h).length/\(robS s h).length<=5:=by
 have h1:=(robS_sm hs h).poly.1.1
 have h2:=(robS_sm hs h).five
 omega
noncomputable def bxN (s:DSc) (h:Int):DV × DV:=if opnB s h then boxD s h else ((0,0),(0,0))
theorem bxN_t {s:DSc} {h:Int} (e:opnB s h=true):bxN s h=boxD s h:=if_pos e
theorem bxN_f {s:DSc} {h:Int} (e:opnB s h=false):bxN s h=((0,0),(0,0)):=if_neg (by rw [e]; decide)
theorem opnB_f1 {s:DSc} {h:Int} (e:(sceneB s && hdB h)=false):opnB s h=false:=by
 unfold opnB
 rw [<-Bool.and_assoc,e]; rfl
theorem opnB_t1 {s:DSc} {h:Int} (e:(sceneB s && hdB h)=true):opnB s h=limB s h:=by
 unfold opnB
 rw [<-Bool.and_assoc,e]; rfl
set_option maxRecDepth 100000 in
set_option maxHeartbeats 1000000 in
theorem LimitsOfI_fn (s:DSc) (h:Int):Fn Tryz.prog 169 [⟨tScene,s⟩,⟨.int,h⟩] false [⟨tBox,bxN s h⟩,⟨.bool,opnB s h⟩]:=by
 cases e:sceneB s && hdB h
 ·rw [bxN_f (opnB_f1 e),opnB_f1 e]
  have c1:=RobotAtI_nil s h e
  refine fn_enter tabOK mixes Tryz.func169 rfl rfl _ Tryz.ntmps169 _ Tryz.results169 (by simp) fun hwf=>?_
  try simp (maxSteps:=9^9) only[go_sem]
  repeat refine And.intro (by first|omega|(constructor<;>omega)|kernel_rfl) ?_
  refine CallW.mk (c1) ?_
  try simp (maxSteps:=9^9) only[go_sem]
  all_goals repeat refine And.intro (by first|omega|(constructor<;>omega)|kernel_rfl) ?_
  all_goals first|kernel_rfl|omega|rfl
 ·have es:=(Bool.and_eq_true_iff.1 e).1
  have eh:0<=h/\h<=3:=of_decide_eq_true (Bool.and_eq_true_iff.1 e).2
  have hb:=wid_b es h
  have hl1:=inB_b (scene_p es).low
  have hl2:=inB_b (scene_p es).high
  have hr:=robS_len es h
  have c1:=RobotAtI_fn s h es eh
  have c2:=widthOfI_fn (robS s h) (by omega)
  have hlim:limB s h=(decide ((boxD s h).1.1 < (boxD s h).2.1) && decide ((boxD s h).1.2 < (boxD s h).2.2)):=rfl
  by_cases h1:(boxD s h).1.1 < (boxD s h).2.1
  rotate_left
  ·have el:opnB s h=false:=by rw [opnB_t1 e,hlim,decide_eq_false h1]; rfl
   have d1:=decide_eq_true (p:=s.1.1 - (widD (robS s h)).1.1 ≥ s.2.1.1 - (widD (robS s h)).2.1) (show (boxD s h).2.1<=(boxD s h).1.1 from by omega)
   rw [bxN_f el,el]
   refine fn_enter tabOK mixes Tryz.func169 rfl rfl _ Tryz.ntmps169 _ Tryz.results169 (by simp) fun hwf=>?_
   try simp (maxSteps:=9^9) only[go_sem]
   repeat refine And.intro (by first|omega|(constructor<;>omega)|kernel_rfl) ?_
   refine CallW.mk (c1) ?_
   try simp (maxSteps:=9^9) only[go_sem]
   repeat refine And.intro (by first|omega|(constructor<;>omega)|kernel_rfl) ?_
   refine NilW.non (by intro e0; rw [e0] at hr; simp at hr) ?_
   try simp (maxSteps:=9^9) only[go_sem]
   repeat refine And.intro (by first|omega|(constructor<;>omega)|kernel_rfl) ?_
   refine CallW.mk (c2) ?_
   try simp (maxSteps:=9^9) only[go_sem]
   repeat refine And.intro (by first|omega|(constructor<;>omega)|kernel_rfl) ?_
   try simp (maxSteps:=9^9) only[go_sem,d1]
   repeat refine And.intro (by first|omega|(constructor<;>omega)|kernel_rfl) ?_
   try simp (maxSteps:=9^9) only[go_sem,d1]
   all_goals repeat refine And.intro (by first|omega|(constructor<;>omega)|kernel_rfl) ?_
   all_goals first|kernel_rfl|omega|rfl
  have d1:=decide_eq_false (p:=s.1.1 - (widD (robS s h)).1.1 ≥ s.2.1.1 - (widD (robS s h)).2.1) (show ¬ ((boxD s h).2.1<=(boxD s h).1.1) from by omega)
  by_cases h2:(boxD s h).1.2 < (boxD s h).2.2
  rotate_left
  ·have el:opnB s h=false:=by rw [opnB_t1 e,hlim,decide_eq_true h1,decide_eq_false h2]; rfl
   have d2:=decide_eq_true (p:=s.1.2 - (widD (robS s h)).1.2 ≥ s.2.1.2 - (widD (robS s h)).2.2) (show (boxD s h).2.2<=(boxD s h).1.2 from by omega)
   rw [bxN_f el,el]
   refine fn_enter tabOK mixes Tryz.func169 rfl rfl _ Tryz.ntmps169 _ Tryz.results169 (by simp) fun hwf=>?_
   try simp (maxSteps:=9^9) only[go_sem]
   repeat refine And.intro (by first|omega|(constructor<;>omega)|kernel_rfl) ?_
   refine CallW.mk (c1) ?_
   try simp (maxSteps:=9^9) only[go_sem]
   repeat refine And.intro (by first|omega|(constructor<;>omega)|kernel_rfl) ?_
   refine NilW.non (by intro e0; rw [e0] at hr; simp at hr) ?_
   try simp (maxSteps:=9^9) only[go_sem]
   repeat refine And.intro (by first|omega|(constructor<;>omega)|kernel_rfl) ?_
   refine CallW.mk (c2) ?_
   try simp (maxSteps:=9^9) only[go_sem]
   repeat refine And.intro (by first|omega|(constructor<;>omega)|kernel_rfl) ?_
   try simp (maxSteps:=9^9) only[go_sem,d1,d2]
   repeat refine And.intro (by first|omega|(constructor<;>omega)|kernel_rfl) ?_
   try simp (maxSteps:=9^9) only[go_sem,d1,d2]
   all_goals repeat refine And.intro (by first|omega|(constructor<;>omega)|kernel_rfl) ?_
   all_goals first|kernel_rfl|omega|rfl
  have d2:=decide_eq_false (p:=s.1.2 - (widD (robS s h)).1.2 ≥ s.2.1.2 - (widD (robS s h)).2.2) (show ¬ ((boxD s h).2.2<=(boxD s h).1.2) from by omega)
  have el:opnB s h=true:=by rw [opnB_t1 e,hlim,decide_eq_true h1,decide_eq_true h2]; rfl
  rw [bxN_t el,el]
  unfold boxD
  refine fn_enter tabOK mixes Tryz.func169 rfl rfl _ Tryz.ntmps169 _ Tryz.results169 (by simp) fun hwf=>?_
  try simp (maxSteps:=9^9) only[go_sem]
  repeat refine And.intro (by first|omega|(constructor<;>omega)|kernel_rfl) ?_
  refine CallW.mk (c1) ?_
  try simp (maxSteps:=9^9) only[go_sem]
  repeat refine And.intro (by first|omega|(constructor<;>omega)|kernel_rfl) ?_
  refine NilW.non (by intro e0; rw [e0] at hr; simp at hr) ?_
  try simp (maxSteps:=9^9) only[go_sem]
  repeat refine And.intro (by first|omega|(constructor<;>omega)|kernel_rfl) ?_
  refine CallW.mk (c2) ?_
  try simp (maxSteps:=9^9) only[go_sem]
  repeat refine And.intro (by first|omega|(constructor<;>omega)|kernel_rfl) ?_
  try simp (maxSteps:=9^9) only[go_sem,d1,d2]
  repeat refine And.intro (by first|omega|(constructor<;>omega)|kernel_rfl) ?_
  try simp (maxSteps:=9^9) only[go_sem,d1,d2]
  all_goals repeat refine And.intro (by first|omega|(constructor<;>omega)|kernel_rfl) ?_
  all_goals first|kernel_rfl|omega|rfl
set_option maxRecDepth 100000 in
set_option maxHeartbeats 1000000 in
theorem LimitsOfS_fn (s:DSc) (h:Int):Fn Tryz.prog 68 [⟨tScene,s⟩,⟨.int,h⟩] false [⟨tBox,bxN s h⟩,⟨.bool,opnB s h⟩]:=by
 cases e:sceneB s && hdB h
 ·rw [bxN_f (opnB_f1 e),opnB_f1 e]
  have c1:=RobotAtS_fn s h
  rw [robN_f e] at c1
  have c2:=WidthOfS_nil
  refine fn_enter tabOK mixes Tryz.func68 rfl rfl _ Tryz.ntmps68 _ Tryz.results68 (by simp) fun hwf=>?_
  try simp (maxSteps:=9^9) only[go_sem]
  repeat refine And.intro (by first|omega|(constructor<;>omega)|kernel_rfl) ?_
  refine CallW.mk (c1) ?_
  try simp (maxSteps:=9^9) only[go_sem]
  repeat refine And.intro (by first|omega|(constructor<;>omega)|kernel_rfl) ?_
  refine CallW.mk (c2) ?_
  try simp (maxSteps:=9^9) only[go_sem]
  all_goals repeat refine And.intro (by first|omega|(constructor<;>omega)|kernel_rfl) ?_
  all_goals first|kernel_rfl|omega|rfl
 ·have es:=(Bool.and_eq_true_iff.1 e).1
  have eh:0<=h/\h<=3:=of_decide_eq_true (Bool.and_eq_true_iff.1 e).2
  have hb:=wid_b es h
  have hl1:=inB_b (scene_p es).low
  have hl2:=inB_b (scene_p es).high
  have hr:=robS_len es h
  have c1:=RobotAtS_fn s h
  rw [robN_t e] at c1
  have c2:=WidthOfS_fn (robS s h) (robS_sm es h).poly
  have hlim:limB s h=(decide ((boxD s h).1.1 < (boxD s h).2.1) && decide ((boxD s h).1.2 < (boxD s h).2.2)):=rfl
  by_cases h1:(boxD s h).1.1 < (boxD s h).2.1
  rotate_left
  ·have el:opnB s h=false:=by rw [opnB_t1 e,hlim,decide_eq_false h1]; rfl
   have d1:=decide_eq_true (p:=s.1.1 - (widD (robS s h)).1.1 ≥ s.2.1.1 - (widD (robS s h)).2.1) (show (boxD s h).2.1<=(boxD s h).1.1 from by omega)
   rw [bxN_f el,el]
   refine fn_enter tabOK mixes Tryz.func68 rfl rfl _ Tryz.ntmps68 _ Tryz.results68 (by simp) fun hwf=>?_
   try simp (maxSteps:=9^9) only[go_sem]
   repeat refine And.intro (by first|omega|(constructor<;>omega)|kernel_rfl) ?_
   refine CallW.mk (c1) ?_
   try simp (maxSteps:=9^9) only[go_sem]
   repeat refine And.intro (by first|omega|(constructor<;>omega)|kernel_rfl) ?_
   refine CallW.mk (c2) ?_
   try simp (maxSteps:=9^9) only[go_sem]
   repeat refine And.intro (by first|omega|(constructor<;>omega)|kernel_rfl) ?_
   try simp (maxSteps:=9^9) only[go_sem,d1]
   repeat refine And.intro (by first|omega|(constructor<;>omega)|kernel_rfl) ?_
   try simp (maxSteps:=9^9) only[go_sem,d1]
   all_goals repeat refine And.intro (by first|omega|(constructor<;>omega)|kernel_rfl) ?_
   all_goals first|kernel_rfl|omega|rfl
  have d1:=decide_eq_false (p:=s.1.1 - (widD (robS s h)).1.1 ≥ s.2.1.1 - (widD (robS s h)).2.1) (show ¬ ((boxD s h).2.1<=(boxD s h).1.1) from by omega)
  by_cases h2:(boxD s h).1.2 < (boxD s h).2.2
  rotate_left
  ·have el:opnB s h=false:=by rw [opnB_t1 e,hlim,decide_eq_true h1,decide_eq_false h2]; rfl
   have d2:=decide_eq_true (p:=s.1.2 - (widD (robS s h)).1.2 ≥ s.2.1.2 - (widD (robS s h)).2.2) (show (boxD s h).2.2<=(boxD s h).1.2 from by omega)
   rw [bxN_f el,el]
   refine fn_enter tabOK mixes Tryz.func68 rfl rfl _ Tryz.ntmps68 _ Tryz.results68 (by simp) fun hwf=>?_
   try simp (maxSteps:=9^9) only[go_sem]
   repeat refine And.intro (by first|omega|(constructor<;>omega)|kernel_rfl) ?_
   refine CallW.mk (c1) ?_
   try simp (maxSteps:=9^9) only[go_sem]
   repeat refine And.intro (by first|omega|(constructor<;>omega)|kernel_rfl) ?_
   refine CallW.mk (c2) ?_
   try simp (maxSteps:=9^9) only[go_sem]
   repeat refine And.intro (by first|omega|(constructor<;>omega)|kernel_rfl) ?_
   try simp (maxSteps:=9^9) only[go_sem,d1,d2]
   repeat refine And.intro (by first|omega|(constructor<;>omega)|kernel_rfl) ?_
   try simp (maxSteps:=9^9) only[go_sem,d1,d2]
   all_goals repeat refine And.intro (by first|omega|(constructor<;>omega)|kernel_rfl) ?_
   all_goals first|kernel_rfl|omega|rfl
  have d2:=decide_eq_false (p:=s.1.2 - (widD (robS s h)).1.2 ≥ s.2.1.2 - (widD (robS s h)).2.2) (show ¬ ((boxD s h).2.2<=(boxD s h).1.2) from by omega)
  have el:opnB s h=true:=by rw [opnB_t1 e,hlim,decide_eq_true h1,decide_eq_true h2]; rfl
  rw [bxN_t el,el]
  unfold boxD
  refine fn_enter tabOK mixes Tryz.func68 rfl rfl _ Tryz.ntmps68 _ Tryz.results68 (by simp) fun hwf=>?_
  try simp (maxSteps:=9^9) only[go_sem]
  repeat refine And.intro (by first|omega|(constructor<;>omega)|kernel_rfl) ?_
  refine CallW.mk (c1) ?_
  try simp (maxSteps:=9^9) only[go_sem]
  repeat refine And.intro (by first|omega|(constructor<;>omega)|kernel_rfl) ?_
  refine CallW.mk (c2) ?_
  try simp (maxSteps:=9^9) only[go_sem]
  repeat refine And.intro (by first|omega|(constructor<;>omega)|kernel_rfl) ?_
  try simp (maxSteps:=9^9) only[go_sem,d1,d2]
  repeat refine And.intro (by first|omega|(constructor<;>omega)|kernel_rfl) ?_
  try simp (maxSteps:=9^9) only[go_sem,d1,d2]
  all_goals repeat refine And.intro (by first|omega|(constructor<;>omega)|kernel_rfl) ?_
  all_goals first|kernel_rfl|omega|rfl
noncomputable def arN (s:DSc) (h:Int):List (List DV):=if sceneB s && hdB h then arsD s h else []
theorem arN_t {s:DSc} {h:Int} (e:(sceneB s && hdB h)=true):arN s h=arsD s h:=if_pos e
theorem arN_f {s:DSc} {h:Int} (e:(sceneB s && hdB h)=false):arN s h=[]:=if_neg (by rw [e]; decide)
noncomputable def arI (s:DSc) (h:Int) (i:Nat):List (List DV):=(s.2.2.2.1.take i).map (obsD (robS s h))
theorem arI_len {s:DSc} {h:Int} {i:Nat} (hi:i<=s.2.2.2.1.length):(arI s h i).length=i:=by unfold arI; rw [List.length_map,List.length_take]; omega
theorem arI_step {s:DSc} {h:Int} {i:Nat} (hi:i < s.2.2.2.1.length):arI s h (i+1)=arI s h i++[obsD (robS s h) (nth (t:=.slice tVec) s.2.2.2.1 i)]:=by
 unfold arI
 rw [List.take_succ_eq_append_getElem hi,List.map_append,nth_lt (t:=.slice tVec) hi]; rfl
theorem arI_all (s:DSc) (h:Int):arI s h s.2.2.2.1.length=arsD s h:=by unfold arI arsD; rw [List.take_length]
set_option maxRecDepth 100000 in
set_option maxHeartbeats 1000000 in
theorem BlockedAreasI_fn (s:DSc) (h:Int):Fn Tryz.prog 143 [⟨tScene,s⟩,⟨.int,h⟩] true [⟨tVecSS,arN s h⟩]:=by
 cases e:sceneB s && hdB h
 ·rw [arN_f e]
  have c1:=RobotAtI_nil s h e
  refine fn_enter tabOK mixes Tryz.func143 rfl rfl _ Tryz.ntmps143 _ Tryz.results143 (by simp) fun hwf=>?_
  try simp (maxSteps:=9^9) only[go_sem]
  repeat refine And.intro (by first|omega|(constructor<;>omega)|kernel_rfl) ?_
  refine CallW.mk (c1) ?_
  try simp (maxSteps:=9^9) only[go_sem]
  all_goals repeat refine And.intro (by first|omega|(constructor<;>omega)|kernel_rfl) ?_
  all_goals first|kernel_rfl|omega|rfl
 ·have es:=(Bool.and_eq_true_iff.1 e).1
  have eh:0<=h/\h<=3:=of_decide_eq_true (Bool.and_eq_true_iff.1 e).2
  have hr:=robS_len es h
  have hno:=(scene_p es).nobs
  have c1:=(RobotAtI_fn s h es eh).sh
  rw [arN_t e]
  refine fn_enter tabOK mixes Tryz.func143 rfl rfl _ Tryz.ntmps143 _ Tryz.results143 (by simp) fun hwf=>?_
  try simp (maxSteps:=9^9) only[go_sem]
  repeat refine And.intro (by first|omega|(constructor<;>omega)|kernel_rfl) ?_
  refine CallW.mk (c1) ?_
  try simp (maxSteps:=9^9) only[go_sem]
  repeat refine And.intro (by first|omega|(constructor<;>omega)|kernel_rfl) ?_
  refine NilW.non (by intro e0; rw [e0] at hr; simp at hr) ?_
  try simp (maxSteps:=9^9) only[go_sem]
  repeat refine And.intro (by first|omega|(constructor<;>omega)|kernel_rfl) ?_
  refine LoopG.intro _ _ _ (fun i:Nat=>⟨[(5,.sl tVec (robS s h)),(6,.row 1 0),(16,.sl (.slice tVec) s.2.2.2.1),(17,.sc (.int .i64 s.2.2.2.1.length)),(18,.sc (.int .i64 i))],[(1,.row 42 (.slice tVec) 0 true (arI s h i))]⟩) (fun i=>i<=s.2.2.2.1.length) (fun i=>s.2.2.2.1.length - i) 0 ?_ (Nat.zero_le _) ?_
  ·refine Wk.mk [] ?_
   try simp (maxSteps:=9^9) only[go_sem]
   try (and_intros<;>first|rfl|omega|exact ⟨_,rfl⟩)
  ·rintro i hi
   try simp (maxSteps:=9^9) only[go_sem]
   refine CondW_dec (fun hA=>?_) (fun hA=>?_)
   ·have hlt:i < s.2.2.2.1.length:=by omega
    have hal:=arI_len (s:=s) (h:=h) hi
    have c2:=ObstacleForI_fn (robS s h) (nth (t:=.slice tVec) s.2.2.2.1 i) (robS_sm es h) ((scene_p es).obs _ (nth_memT (t:=.slice tVec) hlt)) (by decide)
    try simp (maxSteps:=9^9) only[go_sem]
    repeat refine And.intro (by first|omega|(constructor<;>omega)|kernel_rfl) ?_
    refine CallW.mk (c2) ?_
    try simp (maxSteps:=9^9) only[go_sem]
    try simp (maxSteps:=9^9) only[go_sem,hal]
    repeat refine And.intro (by first|omega|(constructor<;>omega)|kernel_rfl) ?_
    refine LoopK.mk (i+1) ?_ (by omega) (by omega)
    rw [arI_step hlt]
    refine Wk.mk [] ?_
    try simp (maxSteps:=9^9) only[go_sem]
    try (and_intros<;>first|rfl|omega|exact ⟨_,rfl⟩)
   ·rw [show arsD s h=arI s h i by rw [show i=s.2.2.2.1.length by omega,arI_all]]
    try simp (maxSteps:=9^9) only[go_sem]
    all_goals repeat refine And.intro (by first|omega|(constructor<;>omega)|kernel_rfl) ?_
    all_goals first|kernel_rfl|omega|rfl
set_option maxRecDepth 100000 in
set_option maxHeartbeats 1000000 in
theorem BlockedAreasS_fn (s:DSc) (h:Int):Fn Tryz.prog 72 [⟨tScene,s⟩,⟨.int,h⟩] true [⟨tVecSS,arN s h⟩]:=by
 cases e:sceneB s && hdB h
 ·rw [arN_f e]
  have c1:=(RobotAtS_fn s h).sh
  rw [robN_f e] at c1
  have d0:=decide_eq_true (p:=((0:Nat):Int)=0) rfl
  refine fn_enter tabOK mixes Tryz.func72 rfl rfl _ Tryz.ntmps72 _ Tryz.results72 (by simp) fun hwf=>?_
  try simp (maxSteps:=9^9) only[go_sem]
  repeat refine And.intro (by first|omega|(constructor<;>omega)|kernel_rfl) ?_
  refine CallW.mk (c1) ?_
  try simp (maxSteps:=9^9) only[go_sem]
  try simp (maxSteps:=9^9) only[go_sem,d0]
  all_goals repeat refine And.intro (by first|omega|(constructor<;>omega)|kernel_rfl) ?_
  all_goals first|kernel_rfl|omega|rfl
 ·have es:=(Bool.and_eq_true_iff.1 e).1
  have eh:0<=h/\h<=3:=of_decide_eq_true (Bool.and_eq_true_iff.1 e).2
  have hr:=robS_len es h
  have hno:=(scene_p es).nobs
  have c1:=(RobotAtS_fn s h).sh
  rw [robN_t e] at c1
  have d0:=decide_eq_false (p:=((robS s h).length:Int)=0) (by omega)
  rw [arN_t e]
  refine fn_enter tabOK mixes Tryz.func72 rfl rfl _ Tryz.ntmps72 _ Tryz.results72 (by simp) fun hwf=>?_
  try simp (maxSteps:=9^9) only[go_sem]
  repeat refine And.intro (by first|omega|(constructor<;>omega)|kernel_rfl) ?_
  refine CallW.mk (c1) ?_
  try simp (maxSteps:=9^9) only[go_sem]
  repeat refine And.intro (by first|omega|(constructor<;>omega)|kernel_rfl) ?_
  try simp (maxSteps:=9^9) only[go_sem,d0]
  repeat refine And.intro (by first|omega|(constructor<;>omega)|kernel_rfl) ?_
  refine LoopG.intro _ _ _ (fun i:Nat=>⟨[(5,.row 1 0),(6,.sl tVec (robS s h)),(17,.sl (.slice tVec) s.2.2.2.1),(18,.sc (.int .i64 s.2.2.2.1.length)),(19,.sc (.int .i64 i))],[(1,.row 42 (.slice tVec) 0 true (arI s h i))]⟩) (fun i=>i<=s.2.2.2.1.length) (fun i=>s.2.2.2.1.length - i) 0 ?_ (Nat.zero_le _) ?_
  ·refine Wk.mk [] ?_
   try simp (maxSteps:=9^9) only[go_sem]
   try (and_intros<;>first|rfl|omega|exact ⟨_,rfl⟩)
  ·rintro i hi
   try simp (maxSteps:=9^9) only[go_sem]
   refine CondW_dec (fun hA=>?_) (fun hA=>?_)
   ·have hlt:i < s.2.2.2.1.length:=by omega
    have hal:=arI_len (s:=s) (h:=h) hi
    have c2:=ObstacleForS_fn (robS s h) (nth (t:=.slice tVec) s.2.2.2.1 i) (robS_sm es h) ((scene_p es).obs _ (nth_memT (t:=.slice tVec) hlt)) (by decide)
    try simp (maxSteps:=9^9) only[go_sem]
    repeat refine And.intro (by first|omega|(constructor<;>omega)|kernel_rfl) ?_
    refine CallW.mk (c2) ?_
    try simp (maxSteps:=9^9) only[go_sem]
    try simp (maxSteps:=9^9) only[go_sem,hal]
    repeat refine And.intro (by first|omega|(constructor<;>omega)|kernel_rfl) ?_
    refine LoopK.mk (i+1) ?_ (by omega) (by omega)
    rw [arI_step hlt]
    refine Wk.mk [] ?_
    try simp (maxSteps:=9^9) only[go_sem]
    try (and_intros<;>first|rfl|omega|exact ⟨_,rfl⟩)
   ·rw [show arsD s h=arI s h i by rw [show i=s.2.2.2.1.length by omega,arI_all]]
    try simp (maxSteps:=9^9) only[go_sem]
    all_goals repeat refine And.intro (by first|omega|(constructor<;>omega)|kernel_rfl) ?_
    all_goals first|kernel_rfl|omega|rfl
end Go.Proofs.YtffdhjnbppagjaaGreat.DW

namespace Go.Proofs.YtffdhjnbppagjaaGreat.DW
open Go.RowKit
theorem rdO_ratN {n:Int} (h1:-1000<=n) (h2:n<=1000):rdO (ratI n)=some ((n:Int):Rat):=by
 rw [show ratI n=oD (some ((n:Int):Rat)) from ratI_eq n,rdO_oD (ok_small (by omega))]
theorem inB3 {n:Int} (h:-220<=n/\n<=220):okO (some ((n:Int):Rat)):=ok_small (by omega)
set_option maxRecDepth 100000 in
set_option maxHeartbeats 1000000 in
theorem inBoxI_fn (b:DV × DV) (p:DP) (hp:okPt p=true) (hb:((-220<=b.1.1/\b.1.1<=220)/\(-220<=b.1.2/\b.1.2<=220))/\((-220<=b.2.1/\b.2.1<=220)/\(-220<=b.2.2/\b.2.2<=220))):Fn Tryz.prog 263 [⟨tBox,b⟩,⟨tPoint,p⟩] false [⟨.bool,inBx b p⟩]:=by
 obtain ⟨p1,p2⟩:=Bool.and_eq_true_iff.1 (show (okR p.1 && okR p.2)=true from hp)
 have a0:=ratInt_fn b.1.1
 rw [show ratI b.1.1=oD (some ((b.1.1:Int):Rat)) from ratI_eq b.1.1] at a0
 have c0:=ratCmp_fn (rdO p.1) (some ((b.1.1:Int):Rat)) (okO_rdO _) (inB3 (by omega))
 rw [okR_oD p1] at c0
 have a1:=ratInt_fn b.2.1
 rw [show ratI b.2.1=oD (some ((b.2.1:Int):Rat)) from ratI_eq b.2.1] at a1
 have c1:=ratCmp_fn (rdO p.1) (some ((b.2.1:Int):Rat)) (okO_rdO _) (inB3 (by omega))
 rw [okR_oD p1] at c1
 have a2:=ratInt_fn b.1.2
 rw [show ratI b.1.2=oD (some ((b.1.2:Int):Rat)) from ratI_eq b.1.2] at a2
 have c2:=ratCmp_fn (rdO p.2) (some ((b.1.2:Int):Rat)) (okO_rdO _) (inB3 (by omega))
 rw [okR_oD p2] at c2
 have a3:=ratInt_fn b.2.2
 rw [show ratI b.2.2=oD (some ((b.2.2:Int):Rat)) from ratI_eq b.2.2] at a3
 have c3:=ratCmp_fn (rdO p.2) (some ((b.2.2:Int):Rat)) (okO_rdO _) (inB3 (by omega))
 rw [okR_oD p2] at c3
 unfold inBx
 cases h0:decide (cmpO (rdO p.1) (some ((b.1.1:Int):Rat)) > 0)
 ·skip
  refine fn_enter tabOK mixes Tryz.func263 rfl rfl _ Tryz.ntmps263 _ Tryz.results263 (by simp) fun hwf=>?_
  try simp (maxSteps:=9^9) only[go_sem]
  repeat refine And.intro (by first|omega|(constructor<;>omega)|kernel_rfl) ?_
  refine CallW.mk (a0) ?_
  try simp (maxSteps:=9^9) only[go_sem]
  repeat refine And.intro (by first|omega|(constructor<;>omega)|kernel_rfl) ?_
  refine CallW.mk (c0) ?_
  try simp (maxSteps:=9^9) only[go_sem]
  try simp (maxSteps:=9^9) only[go_sem,h0]
  repeat refine And.intro (by first|omega|(constructor<;>omega)|kernel_rfl) ?_
  all_goals repeat refine And.intro (by first|omega|(constructor<;>omega)|kernel_rfl) ?_
  all_goals first|kernel_rfl|omega|rfl
 cases h1:decide (cmpO (rdO p.1) (some ((b.2.1:Int):Rat)) < 0)
 ·skip
  refine fn_enter tabOK mixes Tryz.func263 rfl rfl _ Tryz.ntmps263 _ Tryz.results263 (by simp) fun hwf=>?_
  try simp (maxSteps:=9^9) only[go_sem]
  repeat refine And.intro (by first|omega|(constructor<;>omega)|kernel_rfl) ?_
  refine CallW.mk (a0) ?_
  try simp (maxSteps:=9^9) only[go_sem]
  repeat refine And.intro (by first|omega|(constructor<;>omega)|kernel_rfl) ?_
  refine CallW.mk (c0) ?_
  try simp (maxSteps:=9^9) only[go_sem]
  try simp (maxSteps:=9^9) only[go_sem,h0]
  repeat refine And.intro (by first|omega|(constructor<;>omega)|kernel_rfl) ?_
  refine CallW.mk (a1) ?_
  try simp (maxSteps:=9^9) only[go_sem]
  repeat refine And.intro (by first|omega|(constructor<;>omega)|kernel_rfl) ?_
  refine CallW.mk (c1) ?_
  try simp (maxSteps:=9^9) only[go_sem]
  try simp (maxSteps:=9^9) only[go_sem,h1]
  repeat refine And.intro (by first|omega|(constructor<;>omega)|kernel_rfl) ?_
  all_goals repeat refine And.intro (by first|omega|(constructor<;>omega)|kernel_rfl) ?_
  all_goals first|kernel_rfl|omega|rfl
 cases h2:decide (cmpO (rdO p.2) (some ((b.1.2:Int):Rat)) > 0)
 ·skip
  refine fn_enter tabOK mixes Tryz.func263 rfl rfl _ Tryz.ntmps263 _ Tryz.results263 (by simp) fun hwf=>?_
  try simp (maxSteps:=9^9) only[go_sem]
  repeat refine And.intro (by first|omega|(constructor<;>omega)|kernel_rfl) ?_
  refine CallW.mk (a0) ?_
  try simp (maxSteps:=9^9) only[go_sem]
  repeat refine And.intro (by first|omega|(constructor<;>omega)|kernel_rfl) ?_
  refine CallW.mk (c0) ?_
  try simp (maxSteps:=9^9) only[go_sem]
  try simp (maxSteps:=9^9) only[go_sem,h0]
  repeat refine And.intro (by first|omega|(constructor<;>omega)|kernel_rfl) ?_
  refine CallW.mk (a1) ?_
  try simp (maxSteps:=9^9) only[go_sem]
  repeat refine And.intro (by first|omega|(constructor<;>omega)|kernel_rfl) ?_
  refine CallW.mk (c1) ?_
  try simp (maxSteps:=9^9) only[go_sem]
  try simp (maxSteps:=9^9) only[go_sem,h1]
  repeat refine And.intro (by first|omega|(constructor<;>omega)|kernel_rfl) ?_
  refine CallW.mk (a2) ?_
  try simp (maxSteps:=9^9) only[go_sem]
  repeat refine And.intro (by first|omega|(constructor<;>omega)|kernel_rfl) ?_
  refine CallW.mk (c2) ?_
  try simp (maxSteps:=9^9) only[go_sem]
  try simp (maxSteps:=9^9) only[go_sem,h2]
  repeat refine And.intro (by first|omega|(constructor<;>omega)|kernel_rfl) ?_
  all_goals repeat refine And.intro (by first|omega|(constructor<;>omega)|kernel_rfl) ?_
  all_goals first|kernel_rfl|omega|rfl
 cases h3:decide (cmpO (rdO p.2) (some ((b.2.2:Int):Rat)) < 0)
 ·skip
  refine fn_enter tabOK mixes Tryz.func263 rfl rfl _ Tryz.ntmps263 _ Tryz.results263 (by simp) fun hwf=>?_
  try simp (maxSteps:=9^9) only[go_sem]
  repeat refine And.intro (by first|omega|(constructor<;>omega)|kernel_rfl) ?_
  refine CallW.mk (a0) ?_
  try simp (maxSteps:=9^9) only[go_sem]
  repeat refine And.intro (by first|omega|(constructor<;>omega)|kernel_rfl) ?_
  refine CallW.mk (c0) ?_
  try simp (maxSteps:=9^9) only[go_sem]
  try simp (maxSteps:=9^9) only[go_sem,h0]
  repeat refine And.intro (by first|omega|(constructor<;>omega)|kernel_rfl) ?_
  refine CallW.mk (a1) ?_
  try simp (maxSteps:=9^9) only[go_sem]
  repeat refine And.intro (by first|omega|(constructor<;>omega)|kernel_rfl) ?_
  refine CallW.mk (c1) ?_
  try simp (maxSteps:=9^9) only[go_sem]
  try simp (maxSteps:=9^9) only[go_sem,h1]
  repeat refine And.intro (by first|omega|(constructor<;>omega)|kernel_rfl) ?_
  refine CallW.mk (a2) ?_
  try simp (maxSteps:=9^9) only[go_sem]
  repeat refine And.intro (by first|omega|(constructor<;>omega)|kernel_rfl) ?_
  refine CallW.mk (c2) ?_
  try simp (maxSteps:=9^9) only[go_sem]
  try simp (maxSteps:=9^9) only[go_sem,h2]
  repeat refine And.intro (by first|omega|(constructor<;>omega)|kernel_rfl) ?_
  refine CallW.mk (a3) ?_
  try simp (maxSteps:=9^9) only[go_sem]
  repeat refine And.intro (by first|omega|(constructor<;>omega)|kernel_rfl) ?_
  refine CallW.mk (c3) ?_
  try simp (maxSteps:=9^9) only[go_sem]
  try simp (maxSteps:=9^9) only[go_sem,h3]
  repeat refine And.intro (by first|omega|(constructor<;>omega)|kernel_rfl) ?_
  all_goals repeat refine And.intro (by first|omega|(constructor<;>omega)|kernel_rfl) ?_
  all_goals first|kernel_rfl|omega|rfl
 refine fn_enter tabOK mixes Tryz.func263 rfl rfl _ Tryz.ntmps263 _ Tryz.results263 (by simp) fun hwf=>?_
 try simp (maxSteps:=9^9) only[go_sem]
 repeat refine And.intro (by first|omega|(constructor<;>omega)|kernel_rfl) ?_
 refine CallW.mk (a0) ?_
 try simp (maxSteps:=9^9) only[go_sem]
 repeat refine And.intro (by first|omega|(constructor<;>omega)|kernel_rfl) ?_
 refine CallW.mk (c0) ?_
 try simp (maxSteps:=9^9) only[go_sem]
 try simp (maxSteps:=9^9) only[go_sem,h0]
 repeat refine And.intro (by first|omega|(constructor<;>omega)|kernel_rfl) ?_
 refine CallW.mk (a1) ?_
 try simp (maxSteps:=9^9) only[go_sem]
 repeat refine And.intro (by first|omega|(constructor<;>omega)|kernel_rfl) ?_
 refine CallW.mk (c1) ?_
 try simp (maxSteps:=9^9) only[go_sem]
 try simp (maxSteps:=9^9) only[go_sem,h1]
 repeat refine And.intro (by first|omega|(constructor<;>omega)|kernel_rfl) ?_
 refine CallW.mk (a2) ?_
 try simp (maxSteps:=9^9) only[go_sem]
 repeat refine And.intro (by first|omega|(constructor<;>omega)|kernel_rfl) ?_
 refine CallW.mk (c2) ?_
 try simp (maxSteps:=9^9) only[go_sem]
 try simp (maxSteps:=9^9) only[go_sem,h2]
 repeat refine And.intro (by first|omega|(constructor<;>omega)|kernel_rfl) ?_
 refine CallW.mk (a3) ?_
 try simp (maxSteps:=9^9) only[go_sem]
 repeat refine And.intro (by first|omega|(constructor<;>omega)|kernel_rfl) ?_
 refine CallW.mk (c3) ?_
 try simp (maxSteps:=9^9) only[go_sem]
 try simp (maxSteps:=9^9) only[go_sem,h3]
 repeat refine And.intro (by first|omega|(constructor<;>omega)|kernel_rfl) ?_
 all_goals repeat refine And.intro (by first|omega|(constructor<;>omega)|kernel_rfl) ?_
 all_goals first|kernel_rfl|omega|rfl
set_option maxRecDepth 100000 in
set_option maxHeartbeats 1000000 in
theorem inBoxS_fn (b:DV × DV) (p:DP) (hb:((-220<=b.1.1/\b.1.1<=220)/\(-220<=b.1.2/\b.1.2<=220))/\((-220<=b.2.1/\b.2.1<=220)/\(-220<=b.2.2/\b.2.2<=220))):Fn Tryz.prog 256 [⟨tBox,b⟩,⟨tPoint,p⟩] false [⟨.bool,inBx b p⟩]:=by
 have a0:=RatFromInt_fn b.1.1
 have c0:=specRatCmp_fn p.1 (ratI b.1.1)
 rw [rdO_ratN (n:=b.1.1) (by omega) (by omega)] at c0
 have a1:=RatFromInt_fn b.2.1
 have c1:=specRatCmp_fn p.1 (ratI b.2.1)
 rw [rdO_ratN (n:=b.2.1) (by omega) (by omega)] at c1
 have a2:=RatFromInt_fn b.1.2
 have c2:=specRatCmp_fn p.2 (ratI b.1.2)
 rw [rdO_ratN (n:=b.1.2) (by omega) (by omega)] at c2
 have a3:=RatFromInt_fn b.2.2
 have c3:=specRatCmp_fn p.2 (ratI b.2.2)
 rw [rdO_ratN (n:=b.2.2) (by omega) (by omega)] at c3
 unfold inBx
 cases h0:decide (cmpO (rdO p.1) (some ((b.1.1:Int):Rat)) > 0)
 ·skip
  refine fn_enter tabOK mixes Tryz.func256 rfl rfl _ Tryz.ntmps256 _ Tryz.results256 (by simp) fun hwf=>?_
  try simp (maxSteps:=9^9) only[go_sem]
  repeat refine And.intro (by first|omega|(constructor<;>omega)|kernel_rfl) ?_
  refine CallW.mk (a0) ?_
  try simp (maxSteps:=9^9) only[go_sem]
  repeat refine And.intro (by first|omega|(constructor<;>omega)|kernel_rfl) ?_
  refine CallW.mk (c0) ?_
  try simp (maxSteps:=9^9) only[go_sem]
  try simp (maxSteps:=9^9) only[go_sem,h0]
  repeat refine And.intro (by first|omega|(constructor<;>omega)|kernel_rfl) ?_
  all_goals repeat refine And.intro (by first|omega|(constructor<;>omega)|kernel_rfl) ?_
  all_goals first|kernel_rfl|omega|rfl
 cases h1:decide (cmpO (rdO p.1) (some ((b.2.1:Int):Rat)) < 0)
 ·skip
  refine fn_enter tabOK mixes Tryz.func256 rfl rfl _ Tryz.ntmps256 _ Tryz.results256 (by simp) fun hwf=>?_
  try simp (maxSteps:=9^9) only[go_sem]
  repeat refine And.intro (by first|omega|(constructor<;>omega)|kernel_rfl) ?_
  refine CallW.mk (a0) ?_
  try simp (maxSteps:=9^9) only[go_sem]
  repeat refine And.intro (by first|omega|(constructor<;>omega)|kernel_rfl) ?_
  refine CallW.mk (c0) ?_
  try simp (maxSteps:=9^9) only[go_sem]
  try simp (maxSteps:=9^9) only[go_sem,h0]
  repeat refine And.intro (by first|omega|(constructor<;>omega)|kernel_rfl) ?_
  refine CallW.mk (a1) ?_
  try simp (maxSteps:=9^9) only[go_sem]
  repeat refine And.intro (by first|omega|(constructor<;>omega)|kernel_rfl) ?_
  refine CallW.mk (c1) ?_
  try simp (maxSteps:=9^9) only[go_sem]
  try simp (maxSteps:=9^9) only[go_sem,h1]
  repeat refine And.intro (by first|omega|(constructor<;>omega)|kernel_rfl) ?_
  all_goals repeat refine And.intro (by first|omega|(constructor<;>omega)|kernel_rfl) ?_
  all_goals first|kernel_rfl|omega|rfl
 cases h2:decide (cmpO (rdO p.2) (some ((b.1.2:Int):Rat)) > 0)
 ·skip
  refine fn_enter tabOK mixes Tryz.func256 rfl rfl _ Tryz.ntmps256 _ Tryz.results256 (by simp) fun hwf=>?_
  try simp (maxSteps:=9^9) only[go_sem]
  repeat refine And.intro (by first|omega|(constructor<;>omega)|kernel_rfl) ?_
  refine CallW.mk (a0) ?_
  try simp (maxSteps:=9^9) only[go_sem]
  repeat refine And.intro (by first|omega|(constructor<;>omega)|kernel_rfl) ?_
  refine CallW.mk (c0) ?_
  try simp (maxSteps:=9^9) only[go_sem]
  try simp (maxSteps:=9^9) only[go_sem,h0]
  repeat refine And.intro (by first|omega|(constructor<;>omega)|kernel_rfl) ?_
  refine CallW.mk (a1) ?_
  try simp (maxSteps:=9^9) only[go_sem]
  repeat refine And.intro (by first|omega|(constructor<;>omega)|kernel_rfl) ?_
  refine CallW.mk (c1) ?_
  try simp (maxSteps:=9^9) only[go_sem]
  try simp (maxSteps:=9^9) only[go_sem,h1]
  repeat refine And.intro (by first|omega|(constructor<;>omega)|kernel_rfl) ?_
  refine CallW.mk (a2) ?_
  try simp (maxSteps:=9^9) only[go_sem]
  repeat refine And.intro (by first|omega|(constructor<;>omega)|kernel_rfl) ?_
  refine CallW.mk (c2) ?_
  try simp (maxSteps:=9^9) only[go_sem]
  try simp (maxSteps:=9^9) only[go_sem,h2]
  repeat refine And.intro (by first|omega|(constructor<;>omega)|kernel_rfl) ?_
  all_goals repeat refine And.intro (by first|omega|(constructor<;>omega)|kernel_rfl) ?_
  all_goals first|kernel_rfl|omega|rfl
 cases h3:decide (cmpO (rdO p.2) (some ((b.2.2:Int):Rat)) < 0)
 ·skip
  refine fn_enter tabOK mixes Tryz.func256 rfl rfl _ Tryz.ntmps256 _ Tryz.results256 (by simp) fun hwf=>?_
  try simp (maxSteps:=9^9) only[go_sem]
  repeat refine And.intro (by first|omega|(constructor<;>omega)|kernel_rfl) ?_
  refine CallW.mk (a0) ?_
  try simp (maxSteps:=9^9) only[go_sem]
  repeat refine And.intro (by first|omega|(constructor<;>omega)|kernel_rfl) ?_
  refine CallW.mk (c0) ?_
  try simp (maxSteps:=9^9) only[go_sem]
  try simp (maxSteps:=9^9) only[go_sem,h0]
  repeat refine And.intro (by first|omega|(constructor<;>omega)|kernel_rfl) ?_
  refine CallW.mk (a1) ?_
  try simp (maxSteps:=9^9) only[go_sem]
  repeat refine And.intro (by first|omega|(constructor<;>omega)|kernel_rfl) ?_
  refine CallW.mk (c1) ?_
  try simp (maxSteps:=9^9) only[go_sem]
  try simp (maxSteps:=9^9) only[go_sem,h1]
  repeat refine And.intro (by first|omega|(constructor<;>omega)|kernel_rfl) ?_
  refine CallW.mk (a2) ?_
  try simp (maxSteps:=9^9) only[go_sem]
  repeat refine And.intro (by first|omega|(constructor<;>omega)|kernel_rfl) ?_
  refine CallW.mk (c2) ?_
  try simp (maxSteps:=9^9) only[go_sem]
  try simp (maxSteps:=9^9) only[go_sem,h2]
  repeat refine And.intro (by first|omega|(constructor<;>omega)|kernel_rfl) ?_
  refine CallW.mk (a3) ?_
  try simp (maxSteps:=9^9) only[go_sem]
  repeat refine And.intro (by first|omega|(constructor<;>omega)|kernel_rfl) ?_
  refine CallW.mk (c3) ?_
  try simp (maxSteps:=9^9) only[go_sem]
  try simp (maxSteps:=9^9) only[go_sem,h3]
  repeat refine And.intro (by first|omega|(constructor<;>omega)|kernel_rfl) ?_
  all_goals repeat refine And.intro (by first|omega|(constructor<;>omega)|kernel_rfl) ?_
  all_goals first|kernel_rfl|omega|rfl
 refine fn_enter tabOK mixes Tryz.func256 rfl rfl _ Tryz.ntmps256 _ Tryz.results256 (by simp) fun hwf=>?_
 try simp (maxSteps:=9^9) only[go_sem]
 repeat refine And.intro (by first|omega|(constructor<;>omega)|kernel_rfl) ?_
 refine CallW.mk (a0) ?_
 try simp (maxSteps:=9^9) only[go_sem]
 repeat refine And.intro (by first|omega|(constructor<;>omega)|kernel_rfl) ?_
 refine CallW.mk (c0) ?_
 try simp (maxSteps:=9^9) only[go_sem]
 try simp (maxSteps:=9^9) only[go_sem,h0]
 repeat refine And.intro (by first|omega|(constructor<;>omega)|kernel_rfl) ?_
 refine CallW.mk (a1) ?_
 try simp (maxSteps:=9^9) only[go_sem]
 repeat refine And.intro (by first|omega|(constructor<;>omega)|kernel_rfl) ?_
 refine CallW.mk (c1) ?_
 try simp (maxSteps:=9^9) only[go_sem]
 try simp (maxSteps:=9^9) only[go_sem,h1]
 repeat refine And.intro (by first|omega|(constructor<;>omega)|kernel_rfl) ?_
 refine CallW.mk (a2) ?_
 try simp (maxSteps:=9^9) only[go_sem]
 repeat refine And.intro (by first|omega|(constructor<;>omega)|kernel_rfl) ?_
 refine CallW.mk (c2) ?_
 try simp (maxSteps:=9^9) only[go_sem]
 try simp (maxSteps:=9^9) only[go_sem,h2]
 repeat refine And.intro (by first|omega|(constructor<;>omega)|kernel_rfl) ?_
 refine CallW.mk (a3) ?_
 try simp (maxSteps:=9^9) only[go_sem]
 repeat refine And.intro (by first|omega|(constructor<;>omega)|kernel_rfl) ?_
 refine CallW.mk (c3) ?_
 try simp (maxSteps:=9^9) only[go_sem]
 try simp (maxSteps:=9^9) only[go_sem,h3]
 repeat refine And.intro (by first|omega|(constructor<;>omega)|kernel_rfl) ?_
 all_goals repeat refine And.intro (by first|omega|(constructor<;>omega)|kernel_rfl) ?_
 all_goals first|kernel_rfl|omega|rfl
theorem indexFunc_vsC_fn (F:FuncId) (A:Ty) (x:A.den) (p:(List DV)->Bool) (l:List (List DV)) (hF:∀ y ∈ l,Fn Tryz.prog F (⟨(.slice tVec),y⟩ :: capD A x) false [⟨.bool,p y⟩]):Fn Tryz.prog 262 [⟨.slice (.slice tVec),l⟩,⟨.ext (.clo F) A,some x⟩] false [⟨.int,ixf (t:=(.slice tVec)) p l⟩]:=by
 refine fn_enter tabOK mixes Tryz.func262 rfl rfl _ Tryz.ntmps262 _ Tryz.results262 (by simp) fun hwf=>?_
 have hl:l.length<=9223372036854775807:=(hwf ⟨.slice (.slice tVec),l⟩ (by simp)).1
 try simp (maxSteps:=9^9) only[go_sem]
 refine LoopG.intro _ _ _ (fun i:Nat=>⟨[(0,.sl (.slice tVec) l),(1,.ex (.clo F) A (some x)),(7,.sc (.int .i64 l.length)),(8,.sc (.int .i64 i))],[]⟩) (fun i=>∀ j < i,j < l.length->p (nth (t:=(.slice tVec)) l j)=false) (fun i=>l.length - i) 0 ?_ (fun j h=>by simp at h) ?_
 ·refine Wk.mk [] ?_
  try simp (maxSteps:=9^9) only[go_sem]
  try (and_intros<;>first|rfl|omega|exact ⟨_,rfl⟩)
 ·rintro i h2
  try simp (maxSteps:=9^9) only[go_sem]
  refine CondW_dec (fun h3=>?_) (fun h3=>?_)
  ·have c1:=hF (nth (t:=(.slice tVec)) l i) (nth_memT (t:=(.slice tVec)) (by omega))
   try simp (maxSteps:=9^9) only[go_sem]
   repeat refine And.intro (by first|omega|(constructor<;>omega)|kernel_rfl) ?_
   refine CallD.mk (c1) ?_
   try simp (maxSteps:=9^9) only[go_sem]
   refine CondW_b (fun h4=>?_) (fun h4=>?_)
   ·try simp (maxSteps:=9^9) only[go_sem]
    exact (ixf_at (by omega) h4 (fun j hj=>h2 j hj (by omega))).symm
   ·try simp (maxSteps:=9^9) only[go_sem]
    repeat refine And.intro (by first|omega|(constructor<;>omega)|kernel_rfl) ?_
    refine LoopK.mk (i+1) ?_ (fun j hj hl=>?_) (by omega)
    ·refine Wk.mk [] ?_
     try simp (maxSteps:=9^9) only[go_sem]
     try (and_intros<;>first|rfl|omega|exact ⟨_,rfl⟩)
    ·by_cases hj2:j < i
     ·exact h2 j hj2 hl
     ·rw [show j=i by omega]; exact h4
  ·try simp (maxSteps:=9^9) only[go_sem]
   exact (ixf_none fun j hj=>h2 j (by omega) hj).symm
theorem containsFunc_vsC_fn (F:FuncId) (A:Ty) (x:A.den) (p:(List DV)->Bool) (l:List (List DV)) (hF:∀ y ∈ l,Fn Tryz.prog F (⟨(.slice tVec),y⟩ :: capD A x) false [⟨.bool,p y⟩]):Fn Tryz.prog 182 [⟨.slice (.slice tVec),l⟩,⟨.ext (.clo F) A,some x⟩] false [⟨.bool,l.any p⟩]:=by
 have c1:=indexFunc_vsC_fn F A x p l hF
 refine fn_enter tabOK mixes Tryz.func182 rfl rfl _ Tryz.ntmps182 _ Tryz.results182 (by simp) fun hwf=>?_
 try simp (maxSteps:=9^9) only[go_sem]
 repeat refine And.intro (by first|omega|(constructor<;>omega)|kernel_rfl) ?_
 refine CallW.mk (c1) ?_
 try simp (maxSteps:=9^9) only[go_sem]
 exact ixf_any
theorem cp_dec {l:List DV} {p:DP} (hp:okPt p=true):cpD l p=cntI l p l.length:=by unfold cpD; rw [if_pos hp]
theorem isFreeC_fn (l:List DV) (p:DP) (hl:polyP l) (hp:okPt p=true):Fn Tryz.prog 264 [⟨.slice tVec,l⟩,⟨.ext .ref tPoint,some p⟩] false [⟨.bool,decide (cpD l p ≥ 0)⟩]:=by
 have hn:=hl.1.2
 have c1:=contains_fn l p hl.2.1 (by omega) hp
 rw [<-cp_dec hp] at c1
 refine fn_enter tabOK mixes Tryz.func264 rfl rfl _ Tryz.ntmps264 _ Tryz.results264 (by simp) fun hwf=>?_
 try simp (maxSteps:=9^9) only[go_sem]
 repeat refine And.intro (by first|omega|(constructor<;>omega)|kernel_rfl) ?_
 refine CallW.mk (c1) ?_
 try simp (maxSteps:=9^9) only[go_sem]
 all_goals repeat refine And.intro (by first|omega|(constructor<;>omega)|kernel_rfl) ?_
 all_goals first|kernel_rfl|omega|rfl
theorem isFreeMoveC_fn (l:List DV) (p q:DP) (hl:polyP l) (hp:okPt p=true) (hq:okPt q=true):Fn Tryz.prog 209 [⟨.slice tVec,l⟩,⟨.ext .ref tPoint,some p⟩,⟨.ext .ref tPoint,some q⟩] false [⟨.bool,sgmB l p q⟩]:=by
 have c1:=segmentMeets_fn l p q hl hp hq
 rw [show segB l p q=sgmB l p q by unfold sgmB; rw [hp,hq]; rfl] at c1
 refine fn_enter tabOK mixes Tryz.func209 rfl rfl _ Tryz.ntmps209 _ Tryz.results209 (by simp) fun hwf=>?_
 try simp (maxSteps:=9^9) only[go_sem]
 repeat refine And.intro (by first|omega|(constructor<;>omega)|kernel_rfl) ?_
 refine CallW.mk (c1) ?_
 try simp (maxSteps:=9^9) only[go_sem]
 all_goals repeat refine And.intro (by first|omega|(constructor<;>omega)|kernel_rfl) ?_
 all_goals first|kernel_rfl|omega|rfl
theorem spc_f {s:DSc} {h:Int} (e:opnB s h=false):spcD s h=(false,(((0:Int),(0:Int)),((0:Int),(0:Int))),(spcD s h).2.2):=by
 unfold spcD
 rw [e]; rfl
theorem opn_1 {s:DSc} {h:Int} (e:opnB s h=true):(sceneB s && hdB h)=true:=by
 unfold opnB at e
 rw [<-Bool.and_assoc,Bool.and_eq_true] at e
 exact e.1
theorem spc_t {s:DSc} {h:Int} (e:opnB s h=true):spcD s h=(true,boxD s h,arsD s h):=by
 unfold spcD
 rw [e,opn_1 e]; rfl
theorem opn_s {s:DSc} {h:Int} (e:opnB s h=true):sceneB s=true:=(Bool.and_eq_true_iff.1 (opn_1 e)).1
theorem freB_f {s:DSc} {h:Int} {p:DP} (e:opnB s h=false):freB s h p=false:=by unfold freB; rw [e,Bool.false_and,Bool.and_false]
theorem freB_t {s:DSc} {h:Int} {p:DP} (e:opnB s h=true) (hp:okPt p=true):freB s h p=(inBx (boxD s h) p && !((arsD s h).any fun l=>decide (cpD l p ≥ 0))):=by unfold freB; rw [e,hp,Bool.true_and,Bool.true_and]
set_option maxRecDepth 100000 in
set_option maxHeartbeats 1000000 in
theorem isFreeI_fn (s:DSc) (h:Int) (p:DP) (hp:okPt p=true):Fn Tryz.prog 185 [⟨tSpace,spcD s h⟩,⟨tPoint,p⟩] false [⟨.bool,freB s h p⟩]:=by
 cases e:opnB s h
 ·rw [freB_f e,spc_f e]
  refine fn_enter tabOK mixes Tryz.func185 rfl rfl _ Tryz.ntmps185 _ Tryz.results185 (by simp) fun hwf=>?_
  try simp (maxSteps:=9^9) only[go_sem]
  repeat refine And.intro (by first|omega|(constructor<;>omega)|kernel_rfl) ?_
  all_goals repeat refine And.intro (by first|omega|(constructor<;>omega)|kernel_rfl) ?_
  all_goals first|kernel_rfl|omega|rfl
 ·have es:=opn_s e
  have c1:=inBoxI_fn (boxD s h) p hp (box_b es h)
  have c2:=containsFunc_vsC_fn 264 (.ext .ref tPoint) (some p) (fun l=>decide (cpD l p ≥ 0)) (arsD s h) (fun y hy=>isFreeC_fn y p (ars_poly es h y hy) hp)
  rw [freB_t e hp,spc_t e]
  cases h1:inBx (boxD s h) p<;>rw [h1] at c1
  ·refine fn_enter tabOK mixes Tryz.func185 rfl rfl _ Tryz.ntmps185 _ Tryz.results185 (by simp) fun hwf=>?_
   try simp (maxSteps:=9^9) only[go_sem]
   repeat refine And.intro (by first|omega|(constructor<;>omega)|kernel_rfl) ?_
   refine CallW.mk (c1) ?_
   try simp (maxSteps:=9^9) only[go_sem]
   all_goals repeat refine And.intro (by first|omega|(constructor<;>omega)|kernel_rfl) ?_
   all_goals first|kernel_rfl|omega|rfl
  ·refine fn_enter tabOK mixes Tryz.func185 rfl rfl _ Tryz.ntmps185 _ Tryz.results185 (by simp) fun hwf=>?_
   try simp (maxSteps:=9^9) only[go_sem]
   repeat refine And.intro (by first|omega|(constructor<;>omega)|kernel_rfl) ?_
   refine CallW.mk (c1) ?_
   try simp (maxSteps:=9^9) only[go_sem]
   repeat refine And.intro (by first|omega|(constructor<;>omega)|kernel_rfl) ?_
   refine CallK.mk (c2) ?_
   try simp (maxSteps:=9^9) only[go_sem]
   all_goals repeat refine And.intro (by first|omega|(constructor<;>omega)|kernel_rfl) ?_
   all_goals first|kernel_rfl|omega|rfl
theorem fre_opn {s:DSc} {h:Int} {p:DP} (e:freB s h p=true):opnB s h=true/\okPt p=true:=by
 unfold freB at e
 rw [Bool.and_eq_true,Bool.and_eq_true] at e
 exact ⟨e.2.1,e.1⟩
set_option maxRecDepth 100000 in
set_option maxHeartbeats 1000000 in
theorem isFreeMoveI_fn (s:DSc) (h:Int) (p q:DP) (hp:okPt p=true) (hq:okPt q=true):Fn Tryz.prog 132 [⟨tSpace,spcD s h⟩,⟨tPoint,p⟩,⟨tPoint,q⟩] false [⟨.bool,freM s h p q⟩]:=by
 have c1:=isFreeI_fn s h p hp
 have c2:=isFreeI_fn s h q hq
 unfold freM
 cases h1:freB s h p<;>rw [h1] at c1
 ·rw [Bool.false_and]
  generalize spcD s h=X at c1 c2 ⊢
  obtain ⟨o,b,l⟩:=X
  refine fn_enter tabOK mixes Tryz.func132 rfl rfl _ Tryz.ntmps132 _ Tryz.results132 (by simp) fun hwf=>?_
  try simp (maxSteps:=9^9) only[go_sem]
  repeat refine And.intro (by first|omega|(constructor<;>omega)|kernel_rfl) ?_
  refine CallW.mk (c1) ?_
  try simp (maxSteps:=9^9) only[go_sem]
  all_goals repeat refine And.intro (by first|omega|(constructor<;>omega)|kernel_rfl) ?_
  all_goals first|kernel_rfl|omega|rfl
 ·have e:=(fre_opn h1).1
  have es:=opn_s e
  rw [spc_t e] at c1 c2 ⊢
  have c3:=containsFunc_vsC_fn 209 (.prod (.ext .ref tPoint) (.ext .ref tPoint)) (some p,some q) (fun l=>sgmB l p q) (arsD s h) (fun y hy=>isFreeMoveC_fn y p q (ars_poly es h y hy) hp hq)
  cases h2:freB s h q<;>rw [h2] at c2
  ·refine fn_enter tabOK mixes Tryz.func132 rfl rfl _ Tryz.ntmps132 _ Tryz.results132 (by simp) fun hwf=>?_
   try simp (maxSteps:=9^9) only[go_sem]
   repeat refine And.intro (by first|omega|(constructor<;>omega)|kernel_rfl) ?_
   refine CallW.mk (c1) ?_
   try simp (maxSteps:=9^9) only[go_sem]
   repeat refine And.intro (by first|omega|(constructor<;>omega)|kernel_rfl) ?_
   refine CallW.mk (c2) ?_
   try simp (maxSteps:=9^9) only[go_sem]
   all_goals repeat refine And.intro (by first|omega|(constructor<;>omega)|kernel_rfl) ?_
   all_goals first|kernel_rfl|omega|rfl
  ·refine fn_enter tabOK mixes Tryz.func132 rfl rfl _ Tryz.ntmps132 _ Tryz.results132 (by simp) fun hwf=>?_
   try simp (maxSteps:=9^9) only[go_sem]
   repeat refine And.intro (by first|omega|(constructor<;>omega)|kernel_rfl) ?_
   refine CallW.mk (c1) ?_
   try simp (maxSteps:=9^9) only[go_sem]
   repeat refine And.intro (by first|omega|(constructor<;>omega)|kernel_rfl) ?_
   refine CallW.mk (c2) ?_
   try simp (maxSteps:=9^9) only[go_sem]
   repeat refine And.intro (by first|omega|(constructor<;>omega)|kernel_rfl) ?_
   refine CallK.mk (c3) ?_
   try simp (maxSteps:=9^9) only[go_sem]
   all_goals repeat refine And.intro (by first|omega|(constructor<;>omega)|kernel_rfl) ?_
   all_goals first|kernel_rfl|omega|rfl
theorem spaceOf_fn (s:DSc) (h:Int):Fn Tryz.prog 82 [⟨tScene,s⟩,⟨.int,h⟩] false [⟨tSpace,spcD s h⟩]:=by
 have c1:=LimitsOfI_fn s h
 have c2:=(BlockedAreasI_fn s h).sh
 rw [show spcD s h=(opnB s h,bxN s h,arN s h) from rfl]
 refine fn_enter tabOK mixes Tryz.func82 rfl rfl _ Tryz.ntmps82 _ Tryz.results82 (by simp) fun hwf=>?_
 try simp (maxSteps:=9^9) only[go_sem]
 repeat refine And.intro (by first|omega|(constructor<;>omega)|kernel_rfl) ?_
 refine CallW.mk (c1) ?_
 try simp (maxSteps:=9^9) only[go_sem]
 repeat refine And.intro (by first|omega|(constructor<;>omega)|kernel_rfl) ?_
 refine CallW.mk (c2) ?_
 try simp (maxSteps:=9^9) only[go_sem]
 all_goals repeat refine And.intro (by first|omega|(constructor<;>omega)|kernel_rfl) ?_
 all_goals first|kernel_rfl|omega|rfl
end Go.Proofs.YtffdhjnbppagjaaGreat.DW

namespace Go.Proofs.YtffdhjnbppagjaaGreat.DW
open Go.RowKit
theorem inBx_bad {b:DV × DV} {p:DP} (h:okPt p=false):inBx b p=false:=by
 have h':(okR p.1 && okR p.2)=false:=h
 have hz:∀ (q:Option Rat),cmpO none q=0:=fun q=>by cases q<;>rfl
 unfold inBx
 rw [Bool.and_eq_false_iff] at h'
 rcases h' with h'|h'
 ·rw [okR_f h',hz,decide_eq_false (p:=(0:Int) > 0) (by decide),Bool.false_and]
 ·rw [okR_f h',hz,decide_eq_false (p:=(0:Int) > 0) (by decide),Bool.false_and,Bool.and_false,Bool.and_false]
noncomputable def l11B (b:DV × DV) (l:List (List DV)) (p:DP):Bool:=!(l.any fun x=>decide (cpD x p ≥ 0)) && inBx b p
abbrev BB (b:DV × DV):Prop:=((-220<=b.1.1/\b.1.1<=220)/\(-220<=b.1.2/\b.1.2<=220))/\((-220<=b.2.1/\b.2.1<=220)/\(-220<=b.2.2/\b.2.2<=220))
theorem any_f {t:Ty} {p:t.den->Bool} {l:List t.den} (h:∀ i,i < l.length->p (nth l i)=false):l.any p=false:=by
 rw [List.any_eq_false]
 intro x hx
 obtain ⟨i,hi,rfl⟩:=List.getElem_of_mem hx
 have:=h i hi
 rw [nth_lt hi] at this
 rw [this]; decide
theorem any_t {t:Ty} {p:t.den->Bool} {l:List t.den} {i:Nat} (hi:i < l.length) (h:p (nth l i)=true):l.any p=true:=List.any_eq_true.2 ⟨_,nth_memT hi,h⟩
set_option maxRecDepth 100000 in
set_option maxHeartbeats 1000000 in
theorem l11Free_fn (b:DV × DV) (l:List (List DV)) (p:DP) (hb:BB b) (hl:∀ x ∈ l,polyP x):Fn Tryz.prog 175 [⟨tBox,b⟩,⟨tVecSS,l⟩,⟨tPoint,p⟩] false [⟨.bool,l11B b l p⟩]:=by
 have c2:=inBoxS_fn b p hb
 unfold l11B
 refine fn_enter tabOK mixes Tryz.func175 rfl rfl _ Tryz.ntmps175 _ Tryz.results175 (by simp) fun hwf=>?_
 have hln:l.length<=9223372036854775807:=(hwf ⟨tVecSS,l⟩ (by simp)).1
 try simp (maxSteps:=9^9) only[go_sem]
 repeat refine And.intro (by first|omega|(constructor<;>omega)|kernel_rfl) ?_
 refine LoopG.intro _ _ _ (fun i:Nat=>⟨[(3,.ptr 0 0),(5,.ptr 1 0),(9,.sl (.slice tVec) l),(10,.sc (.int .i64 l.length)),(11,.sc (.int .i64 i))],[(0,.box (cel tBox b)),(1,.box (cel tPoint p))]⟩) (fun i=>∀ j,j < i->j < l.length->decide (cpD (nth (t:=.slice tVec) l j) p ≥ 0)=false) (fun i=>l.length - i) 0 ?_ (fun j h=>absurd h (Nat.not_lt_zero _)) ?_
 ·refine Wk.mk [] ?_
  try simp (maxSteps:=9^9) only[go_sem]
  try (and_intros<;>first|rfl|omega|exact ⟨_,rfl⟩)
 ·rintro i hi
  try simp (maxSteps:=9^9) only[go_sem]
  refine CondW_dec (fun hA=>?_) (fun hA=>?_)
  ·have c1:=ContainsS_fn (nth (t:=.slice tVec) l i) p (hl _ (nth_memT (t:=.slice tVec) (by omega)))
   cases hd:decide (cpD (nth (t:=.slice tVec) l i) p ≥ 0)
   ·try simp (maxSteps:=9^9) only[go_sem]
    repeat refine And.intro (by first|omega|(constructor<;>omega)|kernel_rfl) ?_
    refine CallW.mk (c1) ?_
    try simp (maxSteps:=9^9) only[go_sem]
    try simp (maxSteps:=9^9) only[go_sem,hd]
    repeat refine And.intro (by first|omega|(constructor<;>omega)|kernel_rfl) ?_
    refine LoopK.mk (i+1) ?_ (fun j h1 h2=>?_) (by omega)
    ·refine Wk.mk [] ?_
     try simp (maxSteps:=9^9) only[go_sem]
     try (and_intros<;>first|rfl|omega|exact ⟨_,rfl⟩)
    ·by_cases h3:j < i
     ·exact hi j h3 h2
     ·rw [show j=i by omega]; exact hd
   ·rw [any_t (t:=.slice tVec) (i:=i) (by omega) hd]
    try simp (maxSteps:=9^9) only[go_sem]
    repeat refine And.intro (by first|omega|(constructor<;>omega)|kernel_rfl) ?_
    refine CallW.mk (c1) ?_
    try simp (maxSteps:=9^9) only[go_sem]
    try simp (maxSteps:=9^9) only[go_sem,hd]
    all_goals repeat refine And.intro (by first|omega|(constructor<;>omega)|kernel_rfl) ?_
    all_goals first|kernel_rfl|omega|rfl
  ·rw [any_f (t:=.slice tVec) fun j hj=>hi j (by omega) hj]
   try simp (maxSteps:=9^9) only[go_sem]
   repeat refine And.intro (by first|omega|(constructor<;>omega)|kernel_rfl) ?_
   refine CallW.mk (c2) ?_
   try simp (maxSteps:=9^9) only[go_sem]
   all_goals repeat refine And.intro (by first|omega|(constructor<;>omega)|kernel_rfl) ?_
   all_goals first|kernel_rfl|omega|rfl
set_option maxRecDepth 100000 in
set_option maxHeartbeats 1000000 in
theorem l11Move_fn (b:DV × DV) (l:List (List DV)) (p q:DP) (hb:BB b) (hl:∀ x ∈ l,polyP x):Fn Tryz.prog 146 [⟨tBox,b⟩,⟨tVecSS,l⟩,⟨tPoint,p⟩,⟨tPoint,q⟩] false [⟨.bool,!(l.any fun x=>sgmB x p q) && (l11B b l p && l11B b l q)⟩]:=by
 have c2:=l11Free_fn b l p hb hl
 have c3:=l11Free_fn b l q hb hl
 refine fn_enter tabOK mixes Tryz.func146 rfl rfl _ Tryz.ntmps146 _ Tryz.results146 (by simp) fun hwf=>?_
 have hln:l.length<=9223372036854775807:=(hwf ⟨tVecSS,l⟩ (by simp)).1
 try simp (maxSteps:=9^9) only[go_sem]
 repeat refine And.intro (by first|omega|(constructor<;>omega)|kernel_rfl) ?_
 refine LoopG.intro _ _ _ (fun i:Nat=>⟨[(1,.sl (.slice tVec) l),(4,.ptr 0 0),(6,.ptr 1 0),(7,.ptr 2 0),(11,.sl (.slice tVec) l),(12,.sc (.int .i64 l.length)),(13,.sc (.int .i64 i))],[(0,.box (cel tBox b)),(1,.box (cel tPoint p)),(2,.box (cel tPoint q))]⟩) (fun i=>∀ j,j < i->j < l.length->sgmB (nth (t:=.slice tVec) l j) p q=false) (fun i=>l.length - i) 0 ?_ (fun j h=>absurd h (Nat.not_lt_zero _)) ?_
 ·refine Wk.mk [] ?_
  try simp (maxSteps:=9^9) only[go_sem]
  try (and_intros<;>first|rfl|omega|exact ⟨_,rfl⟩)
 ·rintro i hi
  try simp (maxSteps:=9^9) only[go_sem]
  refine CondW_dec (fun hA=>?_) (fun hA=>?_)
  ·have c1:=SegmentMeetsS_fn (nth (t:=.slice tVec) l i) p q (hl _ (nth_memT (t:=.slice tVec) (by omega)))
   cases hd:sgmB (nth (t:=.slice tVec) l i) p q<;>rw [hd] at c1
   ·try simp (maxSteps:=9^9) only[go_sem]
    repeat refine And.intro (by first|omega|(constructor<;>omega)|kernel_rfl) ?_
    refine CallW.mk (c1) ?_
    try simp (maxSteps:=9^9) only[go_sem]
    repeat refine And.intro (by first|omega|(constructor<;>omega)|kernel_rfl) ?_
    refine LoopK.mk (i+1) ?_ (fun j h1 h2=>?_) (by omega)
    ·refine Wk.mk [] ?_
     try simp (maxSteps:=9^9) only[go_sem]
     try (and_intros<;>first|rfl|omega|exact ⟨_,rfl⟩)
    ·by_cases h3:j < i
     ·exact hi j h3 h2
     ·rw [show j=i by omega]; exact hd
   ·rw [any_t (t:=.slice tVec) (i:=i) (by omega) hd]
    try simp (maxSteps:=9^9) only[go_sem]
    repeat refine And.intro (by first|omega|(constructor<;>omega)|kernel_rfl) ?_
    refine CallW.mk (c1) ?_
    try simp (maxSteps:=9^9) only[go_sem]
    all_goals repeat refine And.intro (by first|omega|(constructor<;>omega)|kernel_rfl) ?_
    all_goals first|kernel_rfl|omega|rfl
  ·rw [any_f (t:=.slice tVec) fun j hj=>hi j (by omega) hj]
   cases h1:l11B b l p<;>rw [h1] at c2
   ·try simp (maxSteps:=9^9) only[go_sem]
    repeat refine And.intro (by first|omega|(constructor<;>omega)|kernel_rfl) ?_
    refine CallW.mk (c2) ?_
    try simp (maxSteps:=9^9) only[go_sem]
    all_goals repeat refine And.intro (by first|omega|(constructor<;>omega)|kernel_rfl) ?_
    all_goals first|kernel_rfl|omega|rfl
   ·try simp (maxSteps:=9^9) only[go_sem]
    repeat refine And.intro (by first|omega|(constructor<;>omega)|kernel_rfl) ?_
    refine CallW.mk (c2) ?_
    try simp (maxSteps:=9^9) only[go_sem]
    repeat refine And.intro (by first|omega|(constructor<;>omega)|kernel_rfl) ?_
    refine CallW.mk (c3) ?_
    try simp (maxSteps:=9^9) only[go_sem]
    all_goals repeat refine And.intro (by first|omega|(constructor<;>omega)|kernel_rfl) ?_
    all_goals first|kernel_rfl|omega|rfl
theorem fre_eq {s:DSc} {h:Int} {p:DP} (e:opnB s h=true):freB s h p=l11B (boxD s h) (arsD s h) p:=by
 unfold freB l11B
 cases hp:okPt p
 ·rw [inBx_bad hp,Bool.and_false]; rfl
 ·rw [e,Bool.and_comm (inBx _ _)]; rfl
theorem IsFreeS_fn (s:DSc) (h:Int) (p:DP):Fn Tryz.prog 94 [⟨tScene,s⟩,⟨.int,h⟩,⟨tPoint,p⟩] false [⟨.bool,freB s h p⟩]:=by
 have c1:=LimitsOfS_fn s h
 have c2:=(BlockedAreasS_fn s h).sh
 cases e:opnB s h<;>rw [e] at c1
 ·rw [freB_f e]
  refine fn_enter tabOK mixes Tryz.func94 rfl rfl _ Tryz.ntmps94 _ Tryz.results94 (by simp) fun hwf=>?_
  try simp (maxSteps:=9^9) only[go_sem]
  repeat refine And.intro (by first|omega|(constructor<;>omega)|kernel_rfl) ?_
  refine CallW.mk (c1) ?_
  try simp (maxSteps:=9^9) only[go_sem]
  all_goals repeat refine And.intro (by first|omega|(constructor<;>omega)|kernel_rfl) ?_
  all_goals first|kernel_rfl|omega|rfl
 ·have es:=opn_s e
  have c3:=l11Free_fn (boxD s h) (arsD s h) p (box_b es h) (ars_poly es h)
  rw [bxN_t e] at c1
  rw [arN_t (opn_1 e)] at c2
  rw [fre_eq e]
  refine fn_enter tabOK mixes Tryz.func94 rfl rfl _ Tryz.ntmps94 _ Tryz.results94 (by simp) fun hwf=>?_
  try simp (maxSteps:=9^9) only[go_sem]
  repeat refine And.intro (by first|omega|(constructor<;>omega)|kernel_rfl) ?_
  refine CallW.mk (c1) ?_
  try simp (maxSteps:=9^9) only[go_sem]
  repeat refine And.intro (by first|omega|(constructor<;>omega)|kernel_rfl) ?_
  refine CallW.mk (c2) ?_
  try simp (maxSteps:=9^9) only[go_sem]
  repeat refine And.intro (by first|omega|(constructor<;>omega)|kernel_rfl) ?_
  refine CallW.mk (c3) ?_
  try simp (maxSteps:=9^9) only[go_sem]
  all_goals repeat refine And.intro (by first|omega|(constructor<;>omega)|kernel_rfl) ?_
  all_goals first|kernel_rfl|omega|rfl
theorem frm_f {s:DSc} {h:Int} {p q:DP} (e:opnB s h=false):freM s h p q=false:=by unfold freM; rw [freB_f e,Bool.false_and]
theorem frm_eq {s:DSc} {h:Int} {p q:DP} (e:opnB s h=true):freM s h p q=(!((arsD s h).any fun x=>sgmB x p q) && (l11B (boxD s h) (arsD s h) p && l11B (boxD s h) (arsD s h) q)):=by
 unfold freM
 rw [fre_eq e,fre_eq e,<-Bool.and_assoc,Bool.and_comm]
theorem IsFreeMoveS_fn (s:DSc) (h:Int) (p q:DP):Fn Tryz.prog 66 [⟨tScene,s⟩,⟨.int,h⟩,⟨tPoint,p⟩,⟨tPoint,q⟩] false [⟨.bool,freM s h p q⟩]:=by
 have c1:=LimitsOfS_fn s h
 have c2:=(BlockedAreasS_fn s h).sh
 cases e:opnB s h<;>rw [e] at c1
 ·rw [frm_f e]
  refine fn_enter tabOK mixes Tryz.func66 rfl rfl _ Tryz.ntmps66 _ Tryz.results66 (by simp) fun hwf=>?_
  try simp (maxSteps:=9^9) only[go_sem]
  repeat refine And.intro (by first|omega|(constructor<;>omega)|kernel_rfl) ?_
  refine CallW.mk (c1) ?_
  try simp (maxSteps:=9^9) only[go_sem]
  all_goals repeat refine And.intro (by first|omega|(constructor<;>omega)|kernel_rfl) ?_
  all_goals first|kernel_rfl|omega|rfl
 ·have es:=opn_s e
  have c3:=l11Move_fn (boxD s h) (arsD s h) p q (box_b es h) (ars_poly es h)
  rw [bxN_t e] at c1
  rw [arN_t (opn_1 e)] at c2
  rw [frm_eq e]
  refine fn_enter tabOK mixes Tryz.func66 rfl rfl _ Tryz.ntmps66 _ Tryz.results66 (by simp) fun hwf=>?_
  try simp (maxSteps:=9^9) only[go_sem]
  repeat refine And.intro (by first|omega|(constructor<;>omega)|kernel_rfl) ?_
  refine CallW.mk (c1) ?_
  try simp (maxSteps:=9^9) only[go_sem]
  repeat refine And.intro (by first|omega|(constructor<;>omega)|kernel_rfl) ?_
  refine CallW.mk (c2) ?_
  try simp (maxSteps:=9^9) only[go_sem]
  repeat refine And.intro (by first|omega|(constructor<;>omega)|kernel_rfl) ?_
  refine CallW.mk (c3) ?_
  try simp (maxSteps:=9^9) only[go_sem]
  all_goals repeat refine And.intro (by first|omega|(constructor<;>omega)|kernel_rfl) ?_
  all_goals first|kernel_rfl|omega|rfl
noncomputable def spsD (s:DSc):tSpaces.den:=(s,(spcD s 0,(spcD s 1,(spcD s 2,spcD s 3))))
abbrev DSp:Type:=Bool × ((DV × DV) × List (List DV))
def spZ:DSp:=(false,(((0,0),(0,0)),[]))
set_option maxRecDepth 100000 in
set_option maxHeartbeats 4000000 in
theorem spacesOf_fn (s:DSc):Fn Tryz.prog 100 [⟨tScene,s⟩] false [⟨.ext .ref tSpaces,some (spsD s)⟩]:=by
 unfold spsD
 have c0:=spaceOf_fn s 0
 have c1:=spaceOf_fn s 1
 have c2:=spaceOf_fn s 2
 have c3:=spaceOf_fn s 3
 refine fnP_enter tabOK mixes Tryz.func100 rfl rfl _ Tryz.ntmps100 _ Tryz.results100 (by simp) fun hwf=>?_
 try simp (maxSteps:=9^9) only[go_sem]
 repeat refine And.intro (by first|omega|(constructor<;>omega)|kernel_rfl) ?_
 refine LoopG.intro _ _ _ (fun y:Nat=>match y with|0=>⟨[(1,.ptr 0 0),(3,.ptr 1 0),(8,.sc (.int .i64 0))],[(0,.box (cel tScene s)),(1,.box (cel tScene s++(cel tSpace spZ++(cel tSpace spZ++(cel tSpace spZ++cel tSpace spZ)))))]⟩|1=>⟨[(1,.ptr 0 0),(3,.ptr 1 0),(8,.sc (.int .i64 1))],[(0,.box (cel tScene s)),(1,.box (cel tScene s++(cel tSpace (spcD s 0)++(cel tSpace spZ++(cel tSpace spZ++cel tSpace spZ)))))]⟩|2=>⟨[(1,.ptr 0 0),(3,.ptr 1 0),(8,.sc (.int .i64 2))],[(0,.box (cel tScene s)),(1,.box (cel tScene s++(cel tSpace (spcD s 0)++(cel tSpace (spcD s 1)++(cel tSpace spZ++cel tSpace spZ)))))]⟩|3=>⟨[(1,.ptr 0 0),(3,.ptr 1 0),(8,.sc (.int .i64 3))],[(0,.box (cel tScene s)),(1,.box (cel tScene s++(cel tSpace (spcD s 0)++(cel tSpace (spcD s 1)++(cel tSpace (spcD s 2)++cel tSpace spZ)))))]⟩|_=>⟨[(1,.ptr 0 0),(3,.ptr 1 0),(8,.sc (.int .i64 4))],[(0,.box (cel tScene s)),(1,.box (cel tScene s++(cel tSpace (spcD s 0)++(cel tSpace (spcD s 1)++(cel tSpace (spcD s 2)++cel tSpace (spcD s 3))))))]⟩) (fun y=>y<=4) (fun y=>4 - y) 0 ?_ (Nat.zero_le _) ?_
 ·unfold spZ
  refine Wk.mk [] ?_
  try simp (maxSteps:=9^9) only[go_sem]
  try (and_intros<;>first|rfl|omega|exact ⟨_,rfl⟩)
 ·unfold spZ
  rintro y hy
  obtain rfl|rfl|rfl|rfl|rfl:y=0\/y=1\/y=2\/y=3\/y=4:=by omega
  ·try simp (maxSteps:=9^9) only[go_sem]
   repeat refine And.intro (by first|omega|(constructor<;>omega)|kernel_rfl) ?_
   refine CallW.mk (c0) ?_
   try simp (maxSteps:=9^9) only[go_sem]
   repeat refine And.intro (by first|omega|(constructor<;>omega)|kernel_rfl) ?_
   refine LoopK.mk 1 ?_ (by omega) (by omega)
   refine Wk.mk [] ?_
   try simp (maxSteps:=9^9) only[go_sem]
   try (and_intros<;>first|rfl|omega|exact ⟨_,rfl⟩)
  ·try simp (maxSteps:=9^9) only[go_sem]
   repeat refine And.intro (by first|omega|(constructor<;>omega)|kernel_rfl) ?_
   refine CallW.mk (c1) ?_
   try simp (maxSteps:=9^9) only[go_sem]
   repeat refine And.intro (by first|omega|(constructor<;>omega)|kernel_rfl) ?_
   refine LoopK.mk 2 ?_ (by omega) (by omega)
   refine Wk.mk [] ?_
   try simp (maxSteps:=9^9) only[go_sem]
   try (and_intros<;>first|rfl|omega|exact ⟨_,rfl⟩)
  ·try simp (maxSteps:=9^9) only[go_sem]
   repeat refine And.intro (by first|omega|(constructor<;>omega)|kernel_rfl) ?_
   refine CallW.mk (c2) ?_
   try simp (maxSteps:=9^9) only[go_sem]
   repeat refine And.intro (by first|omega|(constructor<;>omega)|kernel_rfl) ?_
   refine LoopK.mk 3 ?_ (by omega) (by omega)
   refine Wk.mk [] ?_
   try simp (maxSteps:=9^9) only[go_sem]
   try (and_intros<;>first|rfl|omega|exact ⟨_,rfl⟩)
  ·try simp (maxSteps:=9^9) only[go_sem]
   repeat refine And.intro (by first|omega|(constructor<;>omega)|kernel_rfl) ?_
   refine CallW.mk (c3) ?_
   try simp (maxSteps:=9^9) only[go_sem]
   repeat refine And.intro (by first|omega|(constructor<;>omega)|kernel_rfl) ?_
   refine LoopK.mk 4 ?_ (by omega) (by omega)
   refine Wk.mk [] ?_
   try simp (maxSteps:=9^9) only[go_sem]
   try (and_intros<;>first|rfl|omega|exact ⟨_,rfl⟩)
  ·try simp (maxSteps:=9^9) only[go_sem]
   all_goals repeat refine And.intro (by first|omega|(constructor<;>omega)|kernel_rfl) ?_
   all_goals first|kernel_rfl|omega|rfl
end Go.Proofs.YtffdhjnbppagjaaGreat.DW

namespace Go.Proofs.YtffdhjnbppagjaaGreat.DW
open Go.RowKit
def clip (k:Int) (n:Nat):Nat:=(max 0 (min k (n:Int))).toNat
theorem after_fn (p:DS) (l:List DS) (k:Int):Fn Tryz.prog 107 [⟨tStep,p⟩,⟨.slice tStep,l⟩,⟨.int,k⟩] false [⟨tStep,plcS p l (clip k l.length)⟩]:=by
 unfold plcS clip
 refine fn_enter tabOK mixes Tryz.func107 rfl rfl _ Tryz.ntmps107 _ Tryz.results107 (by simp) fun hwf=>?_
 have hl:l.length<=9223372036854775807:=(hwf ⟨.slice tStep,l⟩ (by simp)).1
 try simp (maxSteps:=9^9) only[go_sem]
 have hml:(List.take (max 0 (min k ↑l.length)).toNat l).length<=9223372036854775807:=by rw [List.length_take]; omega
 generalize List.take (max 0 (min k ↑l.length)).toNat l=m at hml ⊢
 repeat refine And.intro (by first|omega|(constructor<;>omega)|kernel_rfl) ?_
 refine LoopG.intro _ _ _ (fun i:Nat=>⟨[(3,.ptr 0 0),(6,.ptr 1 0),(15,.sl tStep m),(16,.sc (.int .i64 m.length)),(17,.sc (.int .i64 i))],[(1,.box [.sc (.int .i64 0),.sc (.bool false),.sc (.slice none 0 0),.sc (.slice none 0 0),.sc (.bool false),.sc (.slice none 0 0),.sc (.slice none 0 0)]),(0,.box [.sc (.int .i64 (plcS p m i).1),.sc (.bool (plcS p m i).2.1.1.1),.sl .int (plcS p m i).2.1.1.2,.sl .int (plcS p m i).2.1.2,.sc (.bool (plcS p m i).2.2.1.1),.sl .int (plcS p m i).2.2.1.2,.sl .int (plcS p m i).2.2.2])]⟩) (fun i=>i<=m.length) (fun i=>m.length - i) 0 ?_ (Nat.zero_le _) ?_
 ·refine Wk.mk [] ?_
  try simp (maxSteps:=9^9) only[go_sem]
  try (and_intros<;>first|rfl|omega|exact ⟨_,rfl⟩)
 ·rintro i hi
  try simp (maxSteps:=9^9) only[go_sem]
  refine CondW_dec (fun hA=>?_) (fun hA=>?_)
  ·have hst:=plcS_step p (show i < m.length by omega)
   have c1:=stepped_fn (plcS p m i) (nth (t:=tStep) m i)
   try simp (maxSteps:=9^9) only[go_sem]
   repeat refine And.intro (by first|omega|(constructor<;>omega)|kernel_rfl) ?_
   refine CallW.mk (c1) ?_
   try simp (maxSteps:=9^9) only[go_sem]
   repeat refine And.intro (by first|omega|(constructor<;>omega)|kernel_rfl) ?_
   refine LoopK.mk (i+1) ?_ (by omega) (by omega)
   rw [hst]
   refine Wk.mk [] ?_
   try simp (maxSteps:=9^9) only[go_sem]
   try (and_intros<;>first|rfl|omega|exact ⟨_,rfl⟩)
  ·have:plcF p m=plcS p m i:=by unfold plcS; rw [List.take_of_length_le (by omega)]
   rw [this]
   try simp (maxSteps:=9^9) only[go_sem]
   all_goals repeat refine And.intro (by first|omega|(constructor<;>omega)|kernel_rfl) ?_
   all_goals first|kernel_rfl|omega|rfl
end Go.Proofs.YtffdhjnbppagjaaGreat.DW

namespace Go.Proofs.YtffdhjnbppagjaaGreat.DW
open Go.RowKit
def rmB (r d:Int):Bool:=decide (0 < d) && decide (r < d * d)
def rchD (s:DSc):Int:=rchI s.2.2.1 s.2.2.1.length
noncomputable def turnB (s:DSc) (v:DV):Bool:=rmB (rchD s) (v.1 - s.1.1) && (rmB (rchD s) (s.2.1.1 - v.1) && (rmB (rchD s) (v.2 - s.1.2) && (rmB (rchD s) (s.2.1.2 - v.2) && !(s.2.2.2.1.any fun l=>discB l (ptV v) (rchD s)))))
noncomputable def otI (s:DSc):Nat->List Int
 | 0=>[]
 | i+1=>if turnB s (nth (t:=tVec) s.2.2.2.2 i) then otI s i++[(i:Int)] else otI s i
noncomputable def otD (s:DSc):List Int:=otI s s.2.2.2.2.length
theorem otI_mem {s:DSc}:∀ {i:Nat} {k:Int},k ∈ otI s i->0<=k/\k < i
 | 0,k,h=>by simp [otI] at h
 | i+1,k,h=>by
  unfold otI at h
  split at h
  ·rcases List.mem_append.1 h with h|h
   ·have:=otI_mem h; omega
   ·rw [List.mem_singleton.1 h]; omega
  ·have:=otI_mem h; omega
theorem otI_len (s:DSc):∀ i,(otI s i).length<=i
 | 0=>by simp [otI]
 | i+1=>by
  have:=otI_len s i
  unfold otI
  split
  ·simp; omega
  ·omega
noncomputable def tbGo (s:DSc) (p:DP):List Int->Int
 | []=>-1
 | k :: l=>if eqb (ptV (nth (t:=tVec) s.2.2.2.2 k.toNat)) p then k else tbGo s p l
noncomputable def tbA (s:DSc) (p:DP):Int:=tbGo s p (otD s)
noncomputable def fltD (s:DSc) (p x:DS):Int :=
 if ¬ (-1<=x.1/\x.1<=1) then 3 else
 if x.1=0 then (if freM s p.1 p.2 x.2 then 0 else 4) else
 if eqb x.2 p.2 then (if tbA s p.2 < 0 then 5 else 0) else 3
noncomputable def ckGo (s:DSc):DS->List DS->Nat->Option (Int × Int)
 | _,[],_=>none
 | p,x :: l,i=>if fltD s p x=0 then ckGo s (stp p x) l (i+1) else some (fltD s p x,(i:Int))
noncomputable def ckD (s:DSc) (p:DS) (l:List DS) (q:DS):Int × Int :=
 if sceneB s then (if freB s p.1 p.2 then (match ckGo s p l 0 with
  | some r=>r
  | none=>if (plcF p l).1=q.1/\eqb (plcF p l).2 q.2=true then (0,0) else (6,0)) else (2,0)) else (1,0)
theorem ckGo_at {s:DSc} {p:DS} {l:List DS} {i:Nat} (h:i < l.length):ckGo s (plcS p l i) (l.drop i) i=if fltD s (plcS p l i) (nth (t:=tStep) l i)=0 then ckGo s (plcS p l (i+1)) (l.drop (i+1)) (i+1) else some (fltD s (plcS p l i) (nth (t:=tStep) l i),(i:Int)):=by
 rw [List.drop_eq_getElem_cons h,plcS_step p h,nth_lt h]; rfl
theorem fltD_codes (s:DSc) (p x:DS):fltD s p x=0\/fltD s p x=3\/fltD s p x=4\/fltD s p x=5:=by
 unfold fltD
 split
 ·simp
 ·split
  ·split<;>simp
  ·split
   ·split<;>simp
   ·simp
noncomputable def imB (s:DSc) (p:DS) (l:List DS) (q:DS):Bool:=decide ((ckD s p l q).1=0)
noncomputable def ffD (s:DSc) (p:DS) (l:List DS):Int :=
 if (ckD s p l (plcF p l)).1=1\/(ckD s p l (plcF p l)).1=2 then -1 else
 if (ckD s p l (plcF p l)).1=3\/(ckD s p l (plcF p l)).1=4\/(ckD s p l (plcF p l)).1=5 then (ckD s p l (plcF p l)).2 else l.length
noncomputable def bst (s:DSc) (p:DS) (l:List DS) (i:Nat):Nat->Nat
 | 0=>i
 | n+1=>if freM s p.1 p.2 (nth (t:=tStep) l (i+n)).2 then i+n else bst s p l i n
theorem bst_lo (s:DSc) (p:DS) (l:List DS) (i:Nat):∀ n,i<=bst s p l i n
 | 0=>Nat.le_refl _
 | n+1=>by
  unfold bst
  split
  ·omega
  ·exact bst_lo s p l i n
theorem bst_hi (s:DSc) (p:DS) (l:List DS) (i:Nat):∀ n,bst s p l i n<=i+n
 | 0=>Nat.le_refl _
 | n+1=>by
  have:=bst_hi s p l i n
  unfold bst
  split
  ·omega
  ·omega
def nz (l:List DS) (i:Nat):Nat:=((l.drop i).takeWhile fun x=>x.1 == 0).length
theorem nz_le (l:List DS) (i:Nat):nz l i<=l.length - i:=by
 unfold nz
 have:=(List.takeWhile_prefix (fun x:DS=>x.1 == 0) (l:=l.drop i)).length_le
 rw [List.length_drop] at this
 exact this
theorem tw_eq {α:Type} (p:α->Bool):∀ {l:List α} {n:Nat},(∀ j (h:j < l.length),j < n->p l[j]=true)->n<=l.length->(∀ (h:n < l.length),p l[n]=false)->(l.takeWhile p).length=n
 | [],n,_,h2,_=>by simp at h2; subst h2; rfl
 | a :: l,0,_,_,h3=>by
  have:=h3 (by simp)
  simp only [List.getElem_cons_zero] at this
  rw [List.takeWhile_cons,if_neg (by rw [this]; decide)]; rfl
 | a :: l,n+1,h1,h2,h3=>by
  have h0:=h1 0 (by simp) (by omega)
  simp only [List.getElem_cons_zero] at h0
  rw [List.takeWhile_cons,if_pos h0,List.length_cons,tw_eq p (n:=n) (fun j h hj=>by have:=h1 (j+1) (by simp; omega) (by omega); simpa using this) (by simp at h2; omega) (fun h=>by have:=h3 (by simp; omega); simpa using this)]
theorem nz_eq {l:List DS} {i n:Nat} (h1:∀ j,j < n->(nth (t:=tStep) l (i+j)).1=0) (h2:i+n<=l.length) (h3:i+n < l.length->(nth (t:=tStep) l (i+n)).1 ≠ 0):nz l i=n:=by
 unfold nz
 refine tw_eq _ (fun j h hj=>?_) (by rw [List.length_drop]; omega) (fun h=>?_)
 ·rw [List.length_drop] at h
  have:=h1 j hj
  rw [nth_lt (by omega)] at this
  rw [List.getElem_drop,this]; rfl
 ·rw [List.length_drop] at h
  have:=h3 (by omega)
  rw [nth_lt (by omega)] at this
  rw [List.getElem_drop]
  simpa using this
noncomputable def shG (s:DSc) (l:List DS) (p:DS) (i:Nat):List DS :=
 if i < l.length then nth (t:=tStep) l (bst s p l i (nz l i)) :: shG s l (stp p (nth (t:=tStep) l (bst s p l i (nz l i)))) (bst s p l i (nz l i)+1) else []
 termination_by l.length - i
 decreasing_by have:=bst_lo s p l i (nz l i); omega
noncomputable def shD (s:DSc) (p:DS) (l:List DS):List DS:=if imB s p l (plcF p l) then shG s l p 0 else l
theorem shG_at {s:DSc} {l:List DS} {p:DS} {i:Nat} (h:i < l.length):shG s l p i=nth (t:=tStep) l (bst s p l i (nz l i)) :: shG s l (stp p (nth (t:=tStep) l (bst s p l i (nz l i)))) (bst s p l i (nz l i)+1):=by
 rw [shG,if_pos h]
theorem shG_end {s:DSc} {l:List DS} {p:DS} {i:Nat} (h:l.length<=i):shG s l p i=[]:=by
 rw [shG,if_neg (by omega)]
theorem bst_lt {s:DSc} {p:DS} {l:List DS} {i:Nat} (h:i < l.length):bst s p l i (nz l i) < l.length:=by
 have h1:=nz_le l i
 rcases Nat.eq_zero_or_pos (nz l i) with h0|h0
 ·rw [h0]; exact h
 ·obtain ⟨n,hn⟩:∃ n,nz l i=n+1:=⟨nz l i - 1,by omega⟩
  rw [hn] at h1 ⊢
  have h2:=bst_hi s p l i n
  unfold bst
  split
  ·omega
  ·omega
theorem shG_mem {s:DSc} {l:List DS}:∀ (n:Nat) {p:DS} {i:Nat},l.length - i<=n->∀ x ∈ shG s l p i,x ∈ l
 | 0,p,i,h,x,hx=>by rw [shG_end (by omega)] at hx; cases hx
 | n+1,p,i,h,x,hx=>by
  by_cases hi:i < l.length
  ·rw [shG_at hi] at hx
   rcases List.mem_cons.1 hx with rfl|hx
   ·exact nth_memT (t:=tStep) (bst_lt hi)
   ·have:=bst_lo s p l i (nz l i)
    exact shG_mem n (by omega) x hx
  ·rw [shG_end (by omega)] at hx; cases hx
end Go.Proofs.YtffdhjnbppagjaaGreat.DW
