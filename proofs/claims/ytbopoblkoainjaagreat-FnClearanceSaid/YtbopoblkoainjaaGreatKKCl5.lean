/-
  Texts of a proof, one behind another: Dw47, Same, Sz, To, Eq, Mark, Held, LwH, Dw26, Dw48, Dw49, Dw50, Dw51, Dw52, Dw53, Dw63, Cg1, Cg2, BtsV, Dw64, Dw65, Dw67, Dw27, Dw66, Dw68, Dw69, Dw73, Cg3, Cg4, Dw29, Dw30, Dw31, Dw32, Dw33, Dw34, Dw83, Rept, Dw35, Dw70, Dw142, Dw143, Sp1, Sp2, Cg5, Dw80, Dw84, Dw46, Hs1, Dw85, Dw54, Dw86.
-/
import Derived.Test.YtbopoblkoainjaaGreatProg
import Derived.Shelf.Bits.Mul64
import Derived.Laws.CopyOwn
import Derived.Deep.LoopGhost
import Derived.Test.YtbopoblkoainjaaGreatKKCl4
set_option linter.all false
set_option maxRecDepth 100000
namespace Go.Proofs.YtbopoblkoainjaaGreat.DW
open Go.RowKit
theorem divO_none_l (y:Option Rat):divO none y=none:=rfl
theorem divO_none_r (x:Option Rat):divO x none=none:=by cases x<;>rfl
theorem divO_z (p:Rat) {q:Rat} (h:q=0):divO (some p) (some q)=none:=if_pos h
theorem divO_s {p q:Rat} (h:q ≠ 0):divO (some p) (some q)=capR (p / q):=by unfold divO; simp only; rw [if_neg h]
theorem okO_div (x y:Option Rat):okO (divO x y):=by
 unfold divO
 split
 ·split
  ·exact okO_none
  ·exact okO_cap _
 ·exact okO_none
theorem inv_mk {q:Rat} (h:q.num ≠ 0):q⁻¹=_root_.mkRat (if q.num < 0 then -(q.den:Int) else q.den) q.num.natAbs:=by
 rw [Rat.inv_def]
 split
 ·rename_i hn
  rw [<-Rat.neg_divInt_neg,show -q.num=((q.num.natAbs:Nat):Int) by omega,Rat.divInt_ofNat]
 ·rename_i hn
  rw [<-Rat.divInt_ofNat]
  congr 1
  omega
theorem div_mk {p q:Rat} (h:q.num ≠ 0):p / q=_root_.mkRat (p.num * (if q.num < 0 then -(q.den:Int) else q.den)) (p.den * q.num.natAbs):=by
 rw [Rat.div_def,inv_mk h]
 conv=>lhs; rw [<-Rat.mkRat_self p]
 rw [Rat.mkRat_mul_mkRat]
theorem sgn_divI {p q:Rat}:sgn (!decide (decide (p.num * (q.den:Int) < 0)=decide (q.num < 0))) (p.num * (q.den:Int)).natAbs=p.num * (if q.num < 0 then -(q.den:Int) else q.den):=by
 have hd:=den_pos' q
 unfold sgn
 by_cases h1:p.num * (q.den:Int) < 0
 ·by_cases h2:q.num < 0
  ·simp only [h1,h2,decide_true,Bool.not_true,Bool.false_eq_true,if_false,if_true]
   rw [Int.mul_neg]; omega
  ·simp only [h1,h2,decide_true,decide_false,Bool.true_eq_false,Bool.not_false,if_true,if_false]
   omega
 ·by_cases h2:q.num < 0
  ·simp only [h1,h2,decide_true,decide_false,Bool.false_eq_true,Bool.not_false,if_true]
   rw [Int.mul_neg]; omega
  ·simp only [h1,h2,decide_false,decide_true,Bool.not_true,Bool.false_eq_true,if_false]
   omega
theorem num_zero {q:Rat} (h:q.num=0):q=0:=by
 rw [<-Rat.mkRat_self q,h,Rat.zero_mkRat]
theorem ratDiv_fn (x y:Option Rat) (hx:okO x) (hy:okO y):Fn Tryz.prog 124 [⟨tRat,oD x⟩,⟨tRat,oD y⟩] true [⟨tRat,oD (divO x y)⟩]:=by
 cases x with
 | none =>
  refine fe Tryz.func124 Tryz.ntmps124 Tryz.results124 fun hwf=>?_
  try simp (maxSteps:=9^9) only[go_sem]
  repeat refine AI ?_
  refine cw isGood_n ?_
  try simp (maxSteps:=9^9) only[go_sem]
  try simp (maxSteps:=9^9) only[go_sem,divO_none_l]
 | some p =>
  cases y with
  | none =>
   refine fe Tryz.func124 Tryz.ntmps124 Tryz.results124 fun hwf=>?_
   try simp (maxSteps:=9^9) only[go_sem]
   repeat refine AI ?_
   refine cw (isGood_s p) ?_
   try simp (maxSteps:=9^9) only[go_sem]
   repeat refine AI ?_
   refine cw isGood_n ?_
   try simp (maxSteps:=9^9) only[go_sem]
   try simp (maxSteps:=9^9) only[go_sem,divO_none_r]
  | some q =>
   obtain ⟨p1,p2⟩:=hx p rfl
   obtain ⟨q1,q2⟩:=hy q rfl
   by_cases h0:q.num=0
   ·have e0:nl q.num.natAbs=0:=nl_eq_zero.2 (by omega)
    have d0:decide ((nl q.num.natAbs:Int)=0)=true:=decide_eq_true (by omega)
    rw [divO_z p (num_zero h0)]
    refine fe Tryz.func124 Tryz.ntmps124 Tryz.results124 fun hwf=>?_
    try simp (maxSteps:=9^9) only[go_sem]
    repeat refine AI ?_
    refine cw (isGood_s p) ?_
    try simp (maxSteps:=9^9) only[go_sem]
    repeat refine AI ?_
    refine cw (isGood_s q) ?_
    try simp (maxSteps:=9^9) only[go_sem]
    try simp (maxSteps:=9^9) only[go_sem,d0]
   ·have hq0:q ≠ 0:=fun h=>h0 (by rw [h]; rfl)
    have d0:decide ((nl q.num.natAbs:Int)=0)=false:=decide_eq_false (fun h=>h0 (by have:=nl_eq_zero.1 (show nl q.num.natAbs=0 by omega); omega))
    have b1:=nl_mulI p.num (q.den:Int)
    have b4:=nl_mul p.den q.num.natAbs
    rw [Int.natAbs_natCast] at b1
    have hz:=ratMake_end (p.num * (if q.num < 0 then -(q.den:Int) else q.den)) (p.den * q.num.natAbs) (Nat.mul_ne_zero p.den_nz (by omega)) (by
     rw [<-sgn_divI,sgn_abs]; omega) (by omega)
    rw [<-div_mk h0] at hz
    rw [divO_s hq0]
    have c3:=bigMulN_fn p.num q.den (by omega) (by omega)
    have c4:=bigMake_to (sgn_divI (p:=p) (q:=q))
    have c5:=natMul_fn p.den q.num.natAbs (by omega) (by omega)
    refine fe Tryz.func124 Tryz.ntmps124 Tryz.results124 fun hwf=>?_
    try simp (maxSteps:=9^9) only[go_sem]
    repeat refine AI ?_
    refine cw (isGood_s p) ?_
    try simp (maxSteps:=9^9) only[go_sem]
    repeat refine AI ?_
    refine cw (isGood_s q) ?_
    try simp (maxSteps:=9^9) only[go_sem]
    try simp (maxSteps:=9^9) only[go_sem,d0]
    repeat refine AI ?_
    refine cw c3 ?_
    try simp (maxSteps:=9^9) only[go_sem]
    repeat refine AI ?_
    repeat refine AI ?_
    refine cw c4 ?_
    try simp (maxSteps:=9^9) only[go_sem]
    repeat refine AI ?_
    refine cw c5 ?_
    try simp (maxSteps:=9^9) only[go_sem]
    repeat refine AI ?_
    refine cw hz ?_
    try simp (maxSteps:=9^9) only[go_sem]
    all_goals repeat refine AI ?_
    all_goals first|kernel_rfl|omega|rfl
def gP (p:DP):Prop:=∃ x y,okO x/\okO y/\p=(oD x,oD y)
theorem gP_1 {p:DP} (h:gP p):oD (rdO p.1)=p.1:=by
 obtain ⟨x,y,hx,hy,rfl⟩:=h
 show oD (rdO (oD x))=oD x
 rw [rdO_oD hx]
theorem gP_2 {p:DP} (h:gP p):oD (rdO p.2)=p.2:=by
 obtain ⟨x,y,hx,hy,rfl⟩:=h
 show oD (rdO (oD y))=oD y
 rw [rdO_oD hy]
theorem gP_mk {x y:Option Rat} (hx:okO x) (hy:okO y):gP (oD x,oD y):=⟨x,y,hx,hy,rfl⟩
theorem gP_ok {p:DP} (h:okPt p=true):gP p:=by
 obtain ⟨p1,p2⟩:=Bool.and_eq_true_iff.1 (show (okR p.1 && okR p.2)=true from h)
 exact ⟨rdO p.1,rdO p.2,okO_rdO _,okO_rdO _,by rw [okR_oD p1,okR_oD p2]⟩
noncomputable def sqD (p q:DP):Option Rat:=addO (mulO (subO (rdO p.1) (rdO q.1)) (subO (rdO p.1) (rdO q.1))) (mulO (subO (rdO p.2) (rdO q.2)) (subO (rdO p.2) (rdO q.2)))
theorem okO_sqD (p q:DP):okO (sqD p q):=okO_add _ _
theorem squareDistance_fn (p q:DP) (hp:gP p) (hq:gP q):Fn Tryz.prog 123 [⟨tPoint,p⟩,⟨tPoint,q⟩] true [⟨tRat,oD (sqD p q)⟩]:=by
 have c1:=ratSub_fn (rdO p.1) (rdO q.1) (okO_rdO _) (okO_rdO _)
 have c2:=ratSub_fn (rdO p.2) (rdO q.2) (okO_rdO _) (okO_rdO _)
 rw [gP_1 hp,gP_1 hq] at c1
 rw [gP_2 hp,gP_2 hq] at c2
 have c3:=ratMul_fn _ _ (okO_sub (rdO p.1) (rdO q.1)) (okO_sub (rdO p.1) (rdO q.1))
 have c4:=ratMul_fn _ _ (okO_sub (rdO p.2) (rdO q.2)) (okO_sub (rdO p.2) (rdO q.2))
 have c5:=ratAdd_fn _ _ (okO_mul (subO (rdO p.1) (rdO q.1)) (subO (rdO p.1) (rdO q.1))) (okO_mul (subO (rdO p.2) (rdO q.2)) (subO (rdO p.2) (rdO q.2)))
 unfold sqD
 refine fe Tryz.func123 Tryz.ntmps123 Tryz.results123 fun hwf=>?_
 try simp (maxSteps:=9^9) only[go_sem]
 repeat refine AI ?_
 refine cw c1 ?_
 try simp (maxSteps:=9^9) only[go_sem]
 repeat refine AI ?_
 refine cw c2 ?_
 try simp (maxSteps:=9^9) only[go_sem]
 repeat refine AI ?_
 repeat refine AI ?_
 refine cw c3 ?_
 try simp (maxSteps:=9^9) only[go_sem]
 repeat refine AI ?_
 refine cw c4 ?_
 try simp (maxSteps:=9^9) only[go_sem]
 repeat refine AI ?_
 refine cw c5 ?_
 try simp (maxSteps:=9^9) only[go_sem]
 all_goals repeat refine AI ?_
 all_goals first|kernel_rfl|omega|rfl
noncomputable def inD (a b c:DP):Option Rat:=addO (mulO (subO (rdO b.1) (rdO a.1)) (subO (rdO c.1) (rdO a.1))) (mulO (subO (rdO b.2) (rdO a.2)) (subO (rdO c.2) (rdO a.2)))
theorem okO_inD (a b c:DP):okO (inD a b c):=okO_add _ _
theorem inner_fn (a b c:DP) (ha:gP a) (hb:gP b) (hc:gP c):Fn Tryz.prog 125 [⟨tPoint,a⟩,⟨tPoint,b⟩,⟨tPoint,c⟩] true [⟨tRat,oD (inD a b c)⟩]:=by
 have c1:=ratSub_fn (rdO b.1) (rdO a.1) (okO_rdO _) (okO_rdO _)
 have c2:=ratSub_fn (rdO c.1) (rdO a.1) (okO_rdO _) (okO_rdO _)
 have c3:=ratSub_fn (rdO b.2) (rdO a.2) (okO_rdO _) (okO_rdO _)
 have c4:=ratSub_fn (rdO c.2) (rdO a.2) (okO_rdO _) (okO_rdO _)
 rw [gP_1 hb,gP_1 ha] at c1
 rw [gP_1 hc,gP_1 ha] at c2
 rw [gP_2 hb,gP_2 ha] at c3
 rw [gP_2 hc,gP_2 ha] at c4
 have c5:=ratMul_fn _ _ (okO_sub (rdO b.1) (rdO a.1)) (okO_sub (rdO c.1) (rdO a.1))
 have c6:=ratMul_fn _ _ (okO_sub (rdO b.2) (rdO a.2)) (okO_sub (rdO c.2) (rdO a.2))
 have c7:=ratAdd_fn _ _ (okO_mul (subO (rdO b.1) (rdO a.1)) (subO (rdO c.1) (rdO a.1))) (okO_mul (subO (rdO b.2) (rdO a.2)) (subO (rdO c.2) (rdO a.2)))
 unfold inD
 refine fe Tryz.func125 Tryz.ntmps125 Tryz.results125 fun hwf=>?_
 try simp (maxSteps:=9^9) only[go_sem]
 repeat refine AI ?_
 refine cw c1 ?_
 try simp (maxSteps:=9^9) only[go_sem]
 repeat refine AI ?_
 refine cw c2 ?_
 try simp (maxSteps:=9^9) only[go_sem]
 repeat refine AI ?_
 refine cw c5 ?_
 try simp (maxSteps:=9^9) only[go_sem]
 repeat refine AI ?_
 refine cw c3 ?_
 try simp (maxSteps:=9^9) only[go_sem]
 repeat refine AI ?_
 refine cw c4 ?_
 try simp (maxSteps:=9^9) only[go_sem]
 repeat refine AI ?_
 refine cw c6 ?_
 try simp (maxSteps:=9^9) only[go_sem]
 repeat refine AI ?_
 refine cw c7 ?_
 try simp (maxSteps:=9^9) only[go_sem]
 all_goals repeat refine AI ?_
 all_goals first|kernel_rfl|omega|rfl
end Go.Proofs.YtbopoblkoainjaaGreat.DW

namespace Go.Proofs.YtbopoblkoainjaaGreat
open Go.RowKit
set_option maxHeartbeats 400000 in
theorem slicesEqual_any (va vb:Value) (a b:DIntS) (w:World) (ha:Has RIntS w [va] a) (hb:Has RIntS w [vb] b) :
  Calls Tryz.prog 179 #[va,vb] w (Post (EqPost a b w)):=by
 obtain ⟨aa,ca,rfl,la,ma,ga⟩:=ha.elems
 obtain ⟨ab,cb,rfl,lb,mb,gb⟩:=hb.elems
 unfold maxLen at ma mb
 have HA:=Lib.hid ga; have HB:=Lib.hid gb; clear ga gb ha hb
 by_cases hl:a.length=b.length
 rotate_left
 ·have hn:((a.length:Int) != (b.length:Int))=true:=by simp; omega
  have HL:=Lib.hid hl; clear hl
  go_enter Tryz.func179,Tryz.ntmps179
  go_wp2
  go_ret
  exact ⟨_,rfl,congrArg Value.bool (eqb_false fun h=>HL.out (by rw [h])).symm,Below.refl _ _⟩
 have hn:((a.length:Int) != (b.length:Int))=false:=by simp; omega
 have HL:=Lib.hid hl; clear hl
 go_enter Tryz.func179,Tryz.ntmps179
 go_wp2
 go_loopw [13] (fun i wr=>∃ k:Nat,k<=a.length/\i=.int .i64 k/\a.take k=b.take k/\Below w.heap.size w wr) (fun i _=>a.length - (intOf i).toNat)
 case atStart=>exact ⟨0,Nat.zero_le _,rfl,rfl,Below.refl _ _⟩
 case round =>
  obtain ⟨k,hk,rfl,htk,hbw⟩:=hrel
  have HT:=Lib.hid htk; clear htk
  by_cases hlt:k < a.length
  rotate_left
  ·go_wp2
   go_ret
   exact ⟨_,rfl,congrArg Value.bool (eqb_true (by have h1:=HT.out; have h2:=HL.out; rwa [List.take_of_length_le (by omega),List.take_of_length_le (by omega)] at h1)).symm,hbw⟩
  have hlt':k < b.length:=by have:=HL.out; omega
  obtain ⟨b1,o1,cs1,rfl,hbl,hx,hcs⟩:=HA.out k hlt
  obtain ⟨b2,o2,cs2,rfl,hbl2,hy,hds⟩:=HB.out k hlt'
  obtain ⟨c0,rfl⟩:=list1 hx.len
  obtain ⟨d0,rfl⟩:=list1 hy.len
  obtain rfl:=hx.int.1
  obtain rfl:=hy.int.1
  have g0:wr.cell? ⟨b1,o1+k,none⟩=some (.int .i64 a[k]):=(hbw.cell (p:=⟨b1,_,none⟩) hbl).trans (by simpa [Rp.int] using hcs 0 _ rfl)
  have e0:wr.cell? ⟨b2,o2+k,none⟩=some (.int .i64 b[k]):=(hbw.cell (p:=⟨b2,_,none⟩) hbl2).trans (by simpa [Rp.int] using hds 0 _ rfl)
  clear hcs hds hx hy
  by_cases hab:a[k]=b[k]
  ·have hn:(a[k] != b[k])=false:=by simp [hab]
   have HAB:=Lib.hid hab; clear hab
   go_wp2
   go_quiet (fail)
   go_wp2
   go_roundw
   case rel=>exact ⟨k+1,by omega,by go_num,by rw [List.take_succ_eq_append_getElem hlt,List.take_succ_eq_append_getElem hlt',HT.out,HAB.out],hbw.drewN _⟩
   case measure=>simp [intOf]; omega
  ·have hn:(a[k] != b[k])=true:=by simp [hab]
   have HAB:=Lib.hid hab; clear hab
   go_wp2
   go_quiet (fail)
   go_wp2
   go_ret
   exact ⟨_,rfl,congrArg Value.bool (eqb_false fun h=>HAB.out (by subst h; rfl)).symm,hbw.drewN _⟩
set_option maxHeartbeats 400000 in
theorem implRatEqual_any (c0 c1 c2 d0 d1 d2:Value) (x y:DRat) (w:World) (hx:Has RRat w [c0,c1,c2] x) (hy:Has RRat w [d0,d1,d2] y) :
  Calls Tryz.prog 156 #[.agg #[c0,c1,c2],.agg #[d0,d1,d2]] w (Post (EqPost x y w)):=by
 obtain ⟨hx0,hx1⟩:=hx.split [c0,c1] [c2] rfl
 obtain ⟨hx00,hx01⟩:=hx0.split [c0] [c1] rfl
 obtain ⟨hy0,hy1⟩:=hy.split [d0,d1] [d2] rfl
 obtain ⟨hy00,hy01⟩:=hy0.split [d0] [d1] rfl
 obtain rfl:=hx00.bool
 obtain rfl:=hy00.bool
 have HX1:=Lib.hid hx1; have HX2:=Lib.hid hx01; have HY1:=Lib.hid hy1; have HY2:=Lib.hid hy01
 clear hx hy hx0 hx1 hy0 hy1 hx00 hx01 hy00 hy01
 have hb0:=((Below.refl w.heap.size w).alloc (Nat.le_refl _) (Obj.cells #[.bool x.1.1,c1,c2] 35)).alloc (by simp<;>omega) (Obj.cells #[.bool y.1.1,d1,d2] 35)
 by_cases he0:x.1.1=y.1.1
 rotate_left
 ·have hn:(x.1.1 == y.1.1)=false:=by simp [he0]
  have HN:=Lib.hid he0; clear he0
  go_enter Tryz.func156,Tryz.ntmps156
  go_wp2
  go_ret
  exact ⟨_,rfl,congrArg Value.bool (eqb_false fun h=>HN.out (by rw [h])).symm,hb0⟩
 have hn0:(x.1.1 == y.1.1)=true:=by simp [he0]
 have HE0:=Lib.hid he0; clear he0
 go_enter Tryz.func156,Tryz.ntmps156
 go_wp2_with fail
 refine (slicesEqual_any _ _ _ _ _ (HX2.out.below hb0) (HY2.out.below hb0)).mono ?_
 rintro e w1 ⟨v,rfl,rfl,hbx1⟩
 have hb1:=Below.up hb0 hbx1 hb0.size
 obtain ⟨hc1,hf1⟩:=bcell hbx1
 by_cases he1:x.1.2=y.1.2
 rotate_left
 ·rw [eqb_false he1]
  have HN:=Lib.hid he1; clear he1
  go_wp2
  go_ret
  exact ⟨_,rfl,congrArg Value.bool (eqb_false fun h=>HN.out (by rw [h])).symm,hb1⟩
 rw [eqb_true he1]
 have HE1:=Lib.hid he1; clear he1
 go_wp2_with fail
 refine (slicesEqual_any _ _ _ _ _ (HX1.out.below hb1) (HY1.out.below hb1)).mono ?_
 rintro e w2 ⟨v,rfl,rfl,hbx2⟩
 have hb2:=Below.up hb1 hbx2 hb1.size
 by_cases he2:x.2=y.2
 rotate_left
 ·rw [eqb_false he2]
  have HN:=Lib.hid he2; clear he2
  go_wp2
  go_ret
  exact ⟨_,rfl,congrArg Value.bool (eqb_false fun h=>HN.out (by rw [h])).symm,hb2⟩
 rw [eqb_true he2]
 have HE2:=Lib.hid he2; clear he2
 go_wp2
 go_ret
 exact ⟨_,rfl,congrArg Value.bool (eqb_true (Prod.ext (Prod.ext HE0.out HE1.out) HE2.out)).symm,hb2⟩
set_option maxHeartbeats 400000 in
theorem implSamePoint_any (c0 c1 c2 c3 c4 c5 d0 d1 d2 d3 d4 d5:Value) (x y:DPoint) (w:World) (hx:Has RPoint w [c0,c1,c2,c3,c4,c5] x) (hy:Has RPoint w [d0,d1,d2,d3,d4,d5] y) :
  Calls Tryz.prog 122 #[.agg #[c0,c1,c2,c3,c4,c5],.agg #[d0,d1,d2,d3,d4,d5]] w (Post (EqPost x y w)):=by
 obtain ⟨hx0,hx1⟩:=hx.split [c0,c1,c2] [c3,c4,c5] rfl
 obtain ⟨hy0,hy1⟩:=hy.split [d0,d1,d2] [d3,d4,d5] rfl
 have HX0:=Lib.hid hx0; have HX1:=Lib.hid hx1; have HY0:=Lib.hid hy0; have HY1:=Lib.hid hy1
 clear hx hy hx0 hx1 hy0 hy1
 have hb0:=((Below.refl w.heap.size w).alloc (Nat.le_refl _) (Obj.cells #[c0,c1,c2,c3,c4,c5] 37)).alloc (by simp<;>omega) (Obj.cells #[d0,d1,d2,d3,d4,d5] 37)
 go_enter Tryz.func122,Tryz.ntmps122
 go_wp2_with fail
 refine (implRatEqual_any _ _ _ _ _ _ _ _ _ (HX0.out.below hb0) (HY0.out.below hb0)).mono ?_
 rintro e w1 ⟨v,rfl,rfl,hbx1⟩
 have hb1:=Below.up hb0 hbx1 hb0.size
 obtain ⟨hc1,hf1⟩:=bcell hbx1
 by_cases he1:x.1=y.1
 rotate_left
 ·rw [eqb_false he1]
  have HN:=Lib.hid he1; clear he1
  go_wp2
  go_ret
  exact ⟨_,rfl,congrArg Value.bool (eqb_false fun h=>HN.out (by rw [h])).symm,hb1⟩
 rw [eqb_true he1]
 have HE1:=Lib.hid he1; clear he1
 go_wp2_with fail
 refine (implRatEqual_any _ _ _ _ _ _ _ _ _ (HX1.out.below hb1) (HY1.out.below hb1)).mono ?_
 rintro e w2 ⟨v,rfl,rfl,hbx2⟩
 have hb2:=Below.up hb1 hbx2 hb1.size
 by_cases he2:x.2=y.2
 rotate_left
 ·rw [eqb_false he2]
  have HN:=Lib.hid he2; clear he2
  go_wp2
  go_ret
  exact ⟨_,rfl,congrArg Value.bool (eqb_false fun h=>HN.out (by rw [h])).symm,hb2⟩
 rw [eqb_true he2]
 have HE2:=Lib.hid he2; clear he2
 go_wp2
 go_ret
 exact ⟨_,rfl,congrArg Value.bool (eqb_true (Prod.ext HE1.out HE2.out)).symm,hb2⟩
end Go.Proofs.YtbopoblkoainjaaGreat

namespace Go.Proofs.YtbopoblkoainjaaGreat
open Go.RowKit
end Go.Proofs.YtbopoblkoainjaaGreat

namespace Go.Proofs.YtbopoblkoainjaaGreat
open Go.RowKit
end Go.Proofs.YtbopoblkoainjaaGreat

namespace Go.Proofs.YtbopoblkoainjaaGreat.DW
open Go.RowKit
@[go_sem] theorem mkBigInt_sc0 (x:DBigInt) (k:Int):(mkBigInt x k).1=x.1:=(rfl)
@[go_sem] theorem mkRat_sc0 (x:DRat) (k:Int):(mkRat x k).1.1=x.1.1:=(rfl)
@[go_sem] theorem mkPoint_sc0 (x:DPoint) (k:Int):(mkPoint x k).1.1.1=x.1.1.1:=(rfl)
@[go_sem] theorem mkPoint_sc1 (x:DPoint) (k:Int):(mkPoint x k).2.1.1=x.2.1.1:=(rfl)
@[go_sem] theorem mkPlacement_sc0 (x:DPlacement) (k:Int):(mkPlacement x k).1=x.1:=(rfl)
@[go_sem] theorem mkPlacement_sc1 (x:DPlacement) (k:Int):(mkPlacement x k).2.1.1.1=x.2.1.1.1:=(rfl)
@[go_sem] theorem mkPlacement_sc2 (x:DPlacement) (k:Int):(mkPlacement x k).2.2.1.1=x.2.2.1.1:=(rfl)
abbrev DT:Type:=List DV × (DS × List DS)
theorem implSame_fn (p q:DP):Fn Tryz.prog 122 [⟨tPoint,p⟩,⟨tPoint,q⟩] false [⟨.bool,eqb p q⟩]:=by
 refine Fn.ofEq (enters Tryz.func122 rfl rfl) fun w v cs u ds hp hx hq hy=>?_
 obtain rfl:=pk_agg rfl hp
 obtain ⟨c0,c1,c2,c3,c4,c5,rfl⟩:=list6 hx.len
 obtain rfl:=pk_agg rfl hq
 obtain ⟨d0,d1,d2,d3,d4,d5,rfl⟩:=list6 hy.len
 exact implSamePoint_any _ _ _ _ _ _ _ _ _ _ _ _ p q w hx hy
noncomputable def tvStep (p x:DS):Bool:=decide (-1<=x.1/\x.1<=1) && (okPt x.2 && (decide (x.1=0) || eqb x.2 p.2))
noncomputable def tvGo:DS->List DS->Bool
 | _,[]=>true
 | p,x :: l=>tvStep p x && tvGo (stp p x) l
noncomputable def plcF (p:DS) (l:List DS):DS:=l.foldl stp p
noncomputable def plcS (p:DS) (l:List DS) (i:Nat):DS:=plcF p (l.take i)
theorem plcS_step (p:DS) {l:List DS} {i:Nat} (h:i < l.length):plcS p l (i+1)=stp (plcS p l i) (nth (t:=tStep) l i):=by
 unfold plcS plcF
 rw [List.take_succ_eq_append_getElem h,nth_lt h]
 simp only [List.foldl_append,List.foldl_cons,List.foldl_nil]
noncomputable def tourB (t:DT):Bool:=smB t.1 20 && (decide (0<=t.2.1.1/\t.2.1.1<=3) && (okPt t.2.1.2 && (decide ((t.2.2.length:Int)<=8) && tvGo t.2.1 t.2.2)))
noncomputable def oneO:Option Rat:=some (((1:Int)):Rat)
noncomputable def zeroO:Option Rat:=some (((0:Int)):Rat)
theorem ratI_1:ratI 1=oD oneO:=ratI_eq 1
theorem ratI_z:ratI 0=oD zeroO:=ratI_eq 0
theorem ok_small {n:Int} (h:n.natAbs<=1000000):okO (some ((n:Int):Rat)):=by
 intro q hq; injection hq with hq; subst hq
 exact ⟨Nat.le_trans (nl_small (n:=n.natAbs) (by omega)) (by decide),Nat.le_trans (nl_small (n:=1) (by decide)) (by decide)⟩
theorem okO_one:okO oneO:=ok_small (by decide)
theorem okO_zero:okO zeroO:=ok_small (by decide)
theorem ratLt_as {p q:Rat} (h1:p < q):¬ q < p:=fun h=>absurd (Rat.le_of_lt h) (Rat.not_le.2 h1)
theorem minO_comm (x y:Option Rat):minO x y=minO y x:=by
 cases x with
 | none=>cases y<;>rfl
 | some p =>
  cases y with
  | none=>rfl
  | some q =>
   show (if cmpQ p q<=0 then some p else some q)=(if cmpQ q p<=0 then some q else some p)
   unfold cmpQ
   by_cases h1:p < q
   ·have h2:¬ q < p:=ratLt_as h1
    simp [h1,h2]
   ·by_cases h2:q < p
    ·simp [h1,h2]
    ·simp [h1,h2]
     exact Rat.le_antisymm (Rat.not_lt.1 h2) (Rat.not_lt.1 h1)
noncomputable def tD (p a b:DP):Option Rat:=minO oneO (maxO zeroO (divO (inD a p b) (sqD a b)))
noncomputable def nearD (a b:DP) (t:Option Rat):DP:=(oD (addO (rdO a.1) (mulO t (subO (rdO b.1) (rdO a.1)))),oD (addO (rdO a.2) (mulO t (subO (rdO b.2) (rdO a.2)))))
noncomputable def segD (p a b:DP):Option Rat:=if eqb a b then sqD p a else sqD p (nearD a b (tD p a b))
theorem okO_segD (p a b:DP):okO (segD p a b):=by unfold segD; split<;>exact okO_sqD _ _
theorem okO_tD (p a b:DP):okO (tD p a b):=okO_min okO_one (okO_max okO_zero (okO_div _ _))
theorem gP_near (a b:DP) (t:Option Rat):gP (nearD a b t):=gP_mk (okO_add _ _) (okO_add _ _)
set_option maxHeartbeats 1000000 in
theorem toSegment_fn (p a b:DP) (hp:gP p) (ha:gP a) (hb:gP b):Fn Tryz.prog 81 [⟨tPoint,p⟩,⟨tPoint,a⟩,⟨tPoint,b⟩] true [⟨tRat,oD (segD p a b)⟩]:=by
 have c0:=implSame_fn a b
 unfold segD
 cases h:eqb a b<;>rw [h] at c0
 ·rw [if_neg (by decide)]
  have c1:=inner_fn a p b ha hp hb
  have c2:=squareDistance_fn a b ha hb
  have c3:=ratDiv_fn (inD a p b) (sqD a b) (okO_inD _ _ _) (okO_sqD _ _)
  have c4:=ratInt_fn 1
  have c5:=ratInt_fn 0
  rw [ratI_1] at c4
  rw [ratI_z] at c5
  have c6:=ratMax_fn zeroO (divO (inD a p b) (sqD a b)) okO_zero (okO_div _ _)
  have c7:=ratMin_fn oneO (maxO zeroO (divO (inD a p b) (sqD a b))) okO_one (okO_max okO_zero (okO_div _ _))
  have e7:minO oneO (maxO zeroO (divO (inD a p b) (sqD a b)))=tD p a b:=rfl
  rw [e7] at c7
  have c8:=ratSub_fn (rdO b.1) (rdO a.1) (okO_rdO _) (okO_rdO _)
  have c9:=ratMul_fn (tD p a b) (subO (rdO b.1) (rdO a.1)) (okO_tD _ _ _) (okO_sub _ _)
  have c10:=ratAdd_fn (rdO a.1) (mulO (tD p a b) (subO (rdO b.1) (rdO a.1))) (okO_rdO _) (okO_mul _ _)
  have c11:=ratSub_fn (rdO b.2) (rdO a.2) (okO_rdO _) (okO_rdO _)
  have c12:=ratMul_fn (tD p a b) (subO (rdO b.2) (rdO a.2)) (okO_tD _ _ _) (okO_sub _ _)
  have c13:=ratAdd_fn (rdO a.2) (mulO (tD p a b) (subO (rdO b.2) (rdO a.2))) (okO_rdO _) (okO_mul _ _)
  rw [gP_1 ha,gP_1 hb] at c8
  rw [gP_1 ha] at c10
  rw [gP_2 ha,gP_2 hb] at c11
  rw [gP_2 ha] at c13
  have c14:=squareDistance_fn p (nearD a b (tD p a b)) hp (gP_near _ _ _)
  unfold nearD at c14 ⊢
  generalize tD p a b=t at c7 c9 c10 c12 c13 c14 ⊢
  generalize divO (inD a p b) (sqD a b)=dv at c3 c6 c7
  refine fe Tryz.func81 Tryz.ntmps81 Tryz.results81 fun hwf=>?_
  try simp (maxSteps:=9^9) only[go_sem]
  repeat refine AI ?_
  refine cw c0 ?_
  try simp (maxSteps:=9^9) only[go_sem]
  repeat refine AI ?_
  repeat refine AI ?_
  refine cw c1 ?_
  try simp (maxSteps:=9^9) only[go_sem]
  repeat refine AI ?_
  refine cw c2 ?_
  try simp (maxSteps:=9^9) only[go_sem]
  repeat refine AI ?_
  refine cw c3 ?_
  try simp (maxSteps:=9^9) only[go_sem]
  repeat refine AI ?_
  repeat refine AI ?_
  refine cw c4 ?_
  try simp (maxSteps:=9^9) only[go_sem]
  repeat refine AI ?_
  refine cw c5 ?_
  try simp (maxSteps:=9^9) only[go_sem]
  repeat refine AI ?_
  refine cw c6 ?_
  try simp (maxSteps:=9^9) only[go_sem]
  repeat refine AI ?_
  refine cw c7 ?_
  try simp (maxSteps:=9^9) only[go_sem]
  repeat refine AI ?_
  repeat refine AI ?_
  refine cw c8 ?_
  try simp (maxSteps:=9^9) only[go_sem]
  repeat refine AI ?_
  refine cw c9 ?_
  try simp (maxSteps:=9^9) only[go_sem]
  repeat refine AI ?_
  refine cw c10 ?_
  try simp (maxSteps:=9^9) only[go_sem]
  repeat refine AI ?_
  refine cw c11 ?_
  try simp (maxSteps:=9^9) only[go_sem]
  repeat refine AI ?_
  refine cw c12 ?_
  try simp (maxSteps:=9^9) only[go_sem]
  repeat refine AI ?_
  refine cw c13 ?_
  try simp (maxSteps:=9^9) only[go_sem]
  repeat refine AI ?_
  repeat refine AI ?_
  refine cw c14 ?_
  try simp (maxSteps:=9^9) only[go_sem]
  all_goals repeat refine AI ?_
  all_goals first|kernel_rfl|omega|rfl
 ·rw [if_pos rfl]
  have c1:=squareDistance_fn p a hp ha
  refine fe Tryz.func81 Tryz.ntmps81 Tryz.results81 fun hwf=>?_
  try simp (maxSteps:=9^9) only[go_sem]
  repeat refine AI ?_
  refine cw c0 ?_
  try simp (maxSteps:=9^9) only[go_sem]
  repeat refine AI ?_
  refine cw c1 ?_
  try simp (maxSteps:=9^9) only[go_sem]
  all_goals repeat refine AI ?_
  all_goals first|kernel_rfl|omega|rfl
theorem eqb_iff {α:Type} {a b:α}:eqb a b=true ↔ a=b:=@decide_eq_true_iff _ (Classical.propDecidable _)
theorem capR_some {q r:Rat} (h:capR q=some r):r=q:=by
 by_cases hs:small q
 ·rw [capR_s hs] at h; injection h with h; exact h.symm
 ·rw [capR_n hs] at h; cases h
theorem rat_sq_nn (x:Rat):0<=x * x:=by
 rcases Rat.le_total (a:=0) (b:=x) with h|h
 ·exact Rat.mul_nonneg h h
 ·have h2:0<=-x:=by have:=Rat.neg_le_neg h; rwa [Rat.neg_zero] at this
  have:=Rat.mul_nonneg h2 h2
  rwa [Rat.neg_mul,Rat.mul_neg,Rat.neg_neg] at this
theorem rat_sum_z {x y:Rat} (hx:0<=x) (hy:0<=y) (h:x+y=0):x=0/\y=0:=by
 have h1:x<=0:=by have:=(Rat.add_le_add_left (c:=x)).2 hy; rwa [Rat.add_zero,h] at this
 have hx0:=Rat.le_antisymm h1 hx
 subst hx0
 rw [Rat.zero_add] at h
 exact ⟨rfl,h⟩
theorem subO_z {x y:Option Rat} {d:Rat} (h:subO x y=some d) (hd:d=0):x=y:=by
 cases x with
 | none=>cases h
 | some p =>
  cases y with
  | none=>cases h
  | some q =>
   have e:=capR_some (show capR (p+-q)=some d from h)
   rw [hd,<-Rat.sub_eq_add_neg] at e
   have:p=q:=by
    have h2:p - q+q=0+q:=by rw [<-e]
    rwa [Rat.sub_add_cancel,Rat.zero_add] at h2
   rw [this]
theorem mulO_some {x:Option Rat} {u:Rat} (h:mulO x x=some u):∃ d,x=some d/\u=d * d:=by
 cases x with
 | none=>cases h
 | some d=>exact ⟨d,rfl,capR_some h⟩
theorem sqD_zero {a b:DP} (ha:okPt a=true) (hb:okPt b=true) (h:sqD a b=some 0):a=b:=by
 obtain ⟨a1,a2⟩:=Bool.and_eq_true_iff.1 (show (okR a.1 && okR a.2)=true from ha)
 obtain ⟨b1,b2⟩:=Bool.and_eq_true_iff.1 (show (okR b.1 && okR b.2)=true from hb)
 unfold sqD at h
 cases hu:mulO (subO (rdO a.1) (rdO b.1)) (subO (rdO a.1) (rdO b.1)) with
 | none=>rw [hu] at h; cases h
 | some u =>
  cases hv:mulO (subO (rdO a.2) (rdO b.2)) (subO (rdO a.2) (rdO b.2)) with
  | none=>rw [hu,hv] at h; cases h
  | some v =>
   rw [hu,hv] at h
   have hz:=capR_some (show capR (u+v)=some 0 from h)
   obtain ⟨d,hd,e1⟩:=mulO_some hu
   obtain ⟨e,he,e2⟩:=mulO_some hv
   obtain ⟨z1,z2⟩:=rat_sum_z (e1 ▸ rat_sq_nn d) (e2 ▸ rat_sq_nn e) hz.symm
   have d0:d=0:=by rw [e1] at z1; exact (Rat.mul_eq_zero.1 z1).elim id id
   have e0:e=0:=by rw [e2] at z2; exact (Rat.mul_eq_zero.1 z2).elim id id
   have q1:=subO_z hd d0
   have q2:=subO_z he e0
   refine Prod.ext ?_ ?_
   ·rw [<-okR_oD a1,<-okR_oD b1,q1]
   ·rw [<-okR_oD a2,<-okR_oD b2,q2]
theorem cmpQ_le {p q:Rat}:cmpQ p q<=0 ↔ p<=q:=by
 unfold cmpQ
 by_cases h1:p < q
 ·simp [h1,Rat.le_of_lt h1]
 ·by_cases h2:q < p
  ·simp [h1,h2]; exact Rat.not_le.2 h2
  ·simp [h1,h2]; exact Rat.not_lt.1 h2
theorem minO_le {p q:Rat} (h:p<=q):minO (some p) (some q)=some p:=by
 show (if cmpQ p q<=0 then some p else some q)=_
 rw [if_pos (cmpQ_le.2 h)]
theorem minO_ge {p q:Rat} (h:q<=p):minO (some p) (some q)=some q:=by rw [minO_comm,minO_le h]
theorem minO_self (x:Option Rat):minO x x=x:=by
 cases x with
 | none=>rfl
 | some p=>exact minO_le Rat.le_refl
theorem minO_nr (x:Option Rat):minO x none=none:=by cases x<;>rfl
theorem minO_assoc (x y z:Option Rat):minO (minO x y) z=minO x (minO y z):=by
 cases x with
 | none=>cases y<;>cases z<;>rfl
 | some p =>
  cases y with
  | none=>cases z<;>rfl
  | some q =>
   cases z with
   | none=>rw [minO_nr,minO_nr,minO_nr]
   | some r =>
    rcases Rat.le_total (a:=p) (b:=q) with h1|h1
    ·rw [minO_le h1]
     rcases Rat.le_total (a:=q) (b:=r) with h2|h2
     ·rw [minO_le h2,minO_le h1,minO_le (Rat.le_trans h1 h2)]
     ·rw [minO_ge h2]
    ·rw [minO_ge h1]
     rcases Rat.le_total (a:=q) (b:=r) with h2|h2
     ·rw [minO_le h2,minO_ge h1]
     ·rw [minO_ge h2,minO_ge (Rat.le_trans h2 h1)]
noncomputable def edO (l:List DV) (p:DP) (i:Nat):Option Rat:=segD p (ptV (nth (t:=tVec) l i)) (ptV (nth (t:=tVec) l (nxt l.length i).toNat))
noncomputable def leS (l:List DV) (p:DP):Nat->Option Rat
 | 0=>edO l p 0
 | i+1=>minO (leS l p i) (edO l p i)
noncomputable def leI (l:List DV) (p:DP):Nat->Option Rat
 | 0=>edO l p (l.length - 1)
 | i+1=>minO (leI l p i) (edO l p i)
theorem leI_S (l:List DV) (p:DP):∀ i,leI l p (i+1)=minO (edO l p (l.length - 1)) (leS l p (i+1))
 | 0=>by show minO (edO l p (l.length - 1)) (edO l p 0)=minO _ (minO (edO l p 0) (edO l p 0)); rw [minO_self]
 | i+1=>by
  show minO (leI l p (i+1)) _=minO _ (minO (leS l p (i+1)) _)
  rw [leI_S l p i,minO_assoc]
theorem leI_all {l:List DV} (p:DP) (h:2<=l.length):leI l p (l.length - 1)=leS l p l.length:=by
 obtain ⟨n,hn⟩:∃ n,l.length=n+2:=⟨l.length - 2,by omega⟩
 have:=leI_S l p n
 rw [show l.length - 1=n+1 by omega,this,hn]
 show minO _ _=minO (leS l p (n+1)) (edO l p (n+1))
 rw [minO_comm,show n+2 - 1=n+1 by omega]
theorem okO_edO (l:List DV) (p:DP) (i:Nat):okO (edO l p i):=okO_segD _ _ _
theorem okO_leS (l:List DV) (p:DP):∀ i,okO (leS l p i)
 | 0=>okO_edO _ _ _
 | i+1=>okO_min (okO_leS l p i) (okO_edO _ _ _)
theorem okO_leI (l:List DV) (p:DP):∀ i,okO (leI l p i)
 | 0=>okO_edO _ _ _
 | i+1=>okO_min (okO_leI l p i) (okO_edO _ _ _)
noncomputable def tpD (l:List DV) (p:DP):Option Rat:=if 0<=cntI l p l.length then zeroO else leS l p l.length
theorem okO_tpD (l:List DV) (p:DP):okO (tpD l p):=by
 unfold tpD; split
 ·exact okO_zero
 ·exact okO_leS _ _ _
set_option maxHeartbeats 1000000 in
theorem toPolygon_fn (l:List DV) (p:DP) (hl:polyP l) (hp:okPt p=true):Fn Tryz.prog 39 [⟨.slice tVec,l⟩,⟨tPoint,p⟩] false [⟨tRat,oD (tpD l p)⟩]:=by
 have h3:3<=l.length:=by have:=hl.1.1; omega
 have hn:l.length<=1048576:=by have:=hl.1.2; omega
 have c1:=contains_fn l p hl.2.1 hn hp
 have c3:=pointsOf_fn l hn
 have hml:(l.map ptV).length=l.length:=List.length_map ..
 have ptok:∀ i,i < l.length->okPt (ptV (nth (t:=tVec) l i))=true:=fun i hi=>okPt_ptV (hl.2.1 _ (nth_mem hi))
 by_cases h0:0<=cntI l p l.length
 ·have d1:=decide_eq_true (p:=cntI l p l.length ≥ 0) h0
  have c2:=ratInt_fn 0
  rw [ratI_z] at c2
  rw [show tpD l p=zeroO from if_pos h0]
  refine fe Tryz.func39 Tryz.ntmps39 Tryz.results39 fun hwf=>?_
  try simp (maxSteps:=9^9) only[go_sem]
  repeat refine AI ?_
  refine cw c1 ?_
  try simp (maxSteps:=9^9) only[go_sem]
  try simp (maxSteps:=9^9) only[go_sem,d1]
  repeat refine AI ?_
  refine cw c2 ?_
  try simp (maxSteps:=9^9) only[go_sem]
  all_goals repeat refine AI ?_
  all_goals first|kernel_rfl|omega|rfl
 ·have d1:=decide_eq_false (p:=cntI l p l.length ≥ 0) h0
  rw [show tpD l p=leS l p l.length from if_neg h0,<-leI_all p (by omega)]
  have s0:=toSegment_fn p (ptV (nth (t:=tVec) l (l.length - 1))) (ptV (nth (t:=tVec) l 0)) (gP_ok hp) (gP_ok (ptok _ (by omega))) (gP_ok (ptok _ (by omega)))
  have e0:segD p (ptV (nth (t:=tVec) l (l.length - 1))) (ptV (nth (t:=tVec) l 0))=leI l p 0:=by
   show _=edO l p (l.length - 1)
   unfold edO
   rw [nxt_end (by omega)]
  rw [e0,<-nth_ptV (by omega),<-nth_ptV (by omega)] at s0
  have ei:((l.length:Int) - 1).toNat=l.length - 1:=by omega
  rw [<-ei] at s0
  refine fe Tryz.func39 Tryz.ntmps39 Tryz.results39 fun hwf=>?_
  try simp (maxSteps:=9^9) only[go_sem]
  repeat refine AI ?_
  refine cw c1 ?_
  try simp (maxSteps:=9^9) only[go_sem]
  try simp (maxSteps:=9^9) only[go_sem,d1]
  repeat refine AI ?_
  refine cw c3 ?_
  try simp (maxSteps:=9^9) only[go_sem]
  try simp (maxSteps:=9^9) only[go_sem,hml]
  repeat refine AI ?_
  repeat refine AI ?_
  refine cw s0 ?_
  try simp (maxSteps:=9^9) only[go_sem]
  repeat refine AI ?_
  refine LoopG.intro _ _ _ (fun i:Nat=>⟨[(3,.ptr 0 0),(4,.ptr 1 0),(5,.sl tPoint (l.map ptV)),(6,.ptr 2 0),(7,.sc (.int .i64 (i+1)))],[(2,.box (cel tRat (oD (leI l p i)))),(1,.box (cel tRat (oD none))),(0,.box (cel tPoint p))]⟩) (fun i=>i+1<=l.length) (fun i=>l.length - i) 0 ?_ (by omega) ?_
  ·refine Wk.mk [(2,5)] ?_
   try simp (maxSteps:=9^9) only[go_sem]
   try (and_intros<;>first|rfl|omega|exact ⟨_,rfl⟩)
  ·rintro i hi
   try simp (maxSteps:=9^9) only[go_sem,hml]
   refine CondW_dec (fun hA=>?_) (fun hA=>?_)
   ·have hlt:i+1 < l.length:=by omega
    have s1:=toSegment_fn p (ptV (nth (t:=tVec) l i)) (ptV (nth (t:=tVec) l (i+1))) (gP_ok hp) (gP_ok (ptok _ (by omega))) (gP_ok (ptok _ (by omega)))
    have e1:segD p (ptV (nth (t:=tVec) l i)) (ptV (nth (t:=tVec) l (i+1)))=edO l p i:=by
     unfold edO
     rw [nxt_lt (by omega)]
    rw [e1,<-nth_ptV (by omega),<-nth_ptV (by omega)] at s1
    have s2:=ratMin_fn (leI l p i) (edO l p i) (okO_leI _ _ _) (okO_edO _ _ _)
    have hst:leI l p (i+1)=minO (leI l p i) (edO l p i):=rfl
    have q1:((i:Int)+1 - 1).toNat=i:=by omega
    have q2:((i:Int)+1).toNat=i+1:=by omega
    try simp (maxSteps:=9^9) only[go_sem]
    repeat refine AI ?_
    rw [q1,q2]
    repeat refine AI ?_
    refine cw s1 ?_
    try simp (maxSteps:=9^9) only[go_sem]
    repeat refine AI ?_
    refine cw s2 ?_
    try simp (maxSteps:=9^9) only[go_sem]
    repeat refine AI ?_
    refine LoopK.mk (i+1) ?_ (by omega) (by omega)
    rw [hst]
    exact WK
   ·rw [show l.length - 1=i by omega]
    try simp (maxSteps:=9^9) only[go_sem]
    all_goals repeat refine AI ?_
    all_goals first|kernel_rfl|omega|rfl
noncomputable def stpD (l:List DV) (p:DP):Option Rat:=if okPt p then tpD l p else none
noncomputable def discB (l:List DV) (p:DP) (n:Int):Bool:=(stpD l p).isSome && decide (cmpO (stpD l p) (some ((n:Int):Rat))<=0)
theorem DiscTouchesI_fn (l:List DV) (p:DP) (n:Int) (hl:polyP l) (hn:0<=n/\n<=1000000):Fn Tryz.prog 198 [⟨.slice tVec,l⟩,⟨tPoint,p⟩,⟨.int,n⟩] false [⟨.bool,discB l p n⟩]:=by
 have c0:=implIsPolygon_fn l
 rw [polyB_t hl] at c0
 have c1:=arePoints1_fn p
 have d1:=decide_eq_false (p:=n < 0) (by omega)
 unfold discB stpD
 cases h:okPt p<;>rw [h] at c1
 ·rw [if_neg (by decide)]
  refine fe Tryz.func198 Tryz.ntmps198 Tryz.results198 fun hwf=>?_
  try simp (maxSteps:=9^9) only[go_sem]
  repeat refine AI ?_
  refine cw c0 ?_
  try simp (maxSteps:=9^9) only[go_sem]
  repeat refine AI ?_
  refine cw c1 ?_
  try simp (maxSteps:=9^9) only[go_sem]
  all_goals repeat refine AI ?_
  all_goals first|kernel_rfl|omega|rfl
 ·rw [if_pos rfl]
  have c2:=toPolygon_fn l p hl h
  have c3:=isGood_fn (tpD l p)
  have c4:=ratInt_fn n
  rw [show ratI n=oD (some ((n:Int):Rat)) from ratI_eq n] at c4
  have c5:=ratCmp_fn (tpD l p) (some ((n:Int):Rat)) (okO_tpD _ _) (ok_small (by omega))
  cases hs:(tpD l p).isSome<;>rw [hs] at c3
  ·refine fe Tryz.func198 Tryz.ntmps198 Tryz.results198 fun hwf=>?_
   try simp (maxSteps:=9^9) only[go_sem]
   repeat refine AI ?_
   refine cw c0 ?_
   try simp (maxSteps:=9^9) only[go_sem]
   repeat refine AI ?_
   refine cw c1 ?_
   try simp (maxSteps:=9^9) only[go_sem]
   try simp (maxSteps:=9^9) only[go_sem,d1]
   repeat refine AI ?_
   refine cw c2 ?_
   try simp (maxSteps:=9^9) only[go_sem]
   repeat refine AI ?_
   repeat refine AI ?_
   refine cw c3 ?_
   try simp (maxSteps:=9^9) only[go_sem]
   all_goals repeat refine AI ?_
   all_goals first|kernel_rfl|omega|rfl
  ·refine fe Tryz.func198 Tryz.ntmps198 Tryz.results198 fun hwf=>?_
   try simp (maxSteps:=9^9) only[go_sem]
   repeat refine AI ?_
   refine cw c0 ?_
   try simp (maxSteps:=9^9) only[go_sem]
   repeat refine AI ?_
   refine cw c1 ?_
   try simp (maxSteps:=9^9) only[go_sem]
   try simp (maxSteps:=9^9) only[go_sem,d1]
   repeat refine AI ?_
   refine cw c2 ?_
   try simp (maxSteps:=9^9) only[go_sem]
   repeat refine AI ?_
   repeat refine AI ?_
   refine cw c3 ?_
   try simp (maxSteps:=9^9) only[go_sem]
   repeat refine AI ?_
   refine cw c4 ?_
   try simp (maxSteps:=9^9) only[go_sem]
   repeat refine AI ?_
   refine cw c5 ?_
   try simp (maxSteps:=9^9) only[go_sem]
   all_goals repeat refine AI ?_
   all_goals first|kernel_rfl|omega|rfl
def rchI (l:List DV):Nat->Int
 | 0=>0
 | i+1=>max (rchI l i) ((nth (t:=tVec) l i).1 * (nth (t:=tVec) l i).1+(nth (t:=tVec) l i).2 * (nth (t:=tVec) l i).2)
theorem sqI_le {k x:Int} (h1:-k<=x) (h2:x<=k):x * x<=k * k:=by
 rcases Int.le_total 0 x with h|h
 ·exact Int.mul_le_mul h2 h2 h (by omega)
 ·have:=Int.mul_le_mul (show -x<=k by omega) (show -x<=k by omega) (by omega) (by omega)
  rwa [Int.neg_mul_neg] at this
theorem ReachSquareI_fn (l:List DV) (hl:polyP l):Fn Tryz.prog 196 [⟨.slice tVec,l⟩] false [⟨.int,rchI l l.length⟩]:=by
 have c0:=implIsPolygon_fn l
 rw [polyB_t hl] at c0
 have hn:=hl.1.2
 refine fe Tryz.func196 Tryz.ntmps196 Tryz.results196 fun hwf=>?_
 try simp (maxSteps:=9^9) only[go_sem]
 repeat refine AI ?_
 refine cw c0 ?_
 try simp (maxSteps:=9^9) only[go_sem]
 refine LoopG.intro _ _ _ (fun i:Nat=>⟨[(3,.sc (.int .i64 (rchI l i))),(9,.sl tVec l),(10,.sc (.int .i64 l.length)),(11,.sc (.int .i64 i))],[]⟩) (fun i=>i<=l.length) (fun i=>l.length - i) 0 ?_ (Nat.zero_le _) ?_
 ·exact WK
 ·rintro i hi
  try simp (maxSteps:=9^9) only[go_sem]
  refine CondW_dec (fun hA=>?_) (fun hA=>?_)
  ·have hlt:i < l.length:=by omega
   obtain ⟨b1,b2,b3,b4⟩:=okV_b (hl.2.1 _ (nth_mem hlt))
   have s1:=sqI_le b1 b2
   have s2:=sqI_le b3 b4
   have n1:=sq_nn (nth (t:=tVec) l i).1
   have n2:=sq_nn (nth (t:=tVec) l i).2
   have hst:rchI l (i+1)=max (rchI l i) ((nth (t:=tVec) l i).1 * (nth (t:=tVec) l i).1+(nth (t:=tVec) l i).2 * (nth (t:=tVec) l i).2):=rfl
   try simp (maxSteps:=9^9) only[go_sem]
   repeat refine AI ?_
   refine LoopK.mk (i+1) ?_ (by omega) (by omega)
   rw [hst]
   exact WK
  ·rw [show l.length=i by omega]
   try simp (maxSteps:=9^9) only[go_sem]
   all_goals repeat refine AI ?_
   all_goals first|kernel_rfl|omega|rfl
noncomputable def btw (x a b:Option Rat):Bool:=decide (cmpO x (minO a b) ≥ 0) && decide (cmpO x (maxO a b)<=0)
noncomputable def spanB (p a b:DP):Bool:=btw (rdO p.1) (rdO a.1) (rdO b.1) && btw (rdO p.2) (rdO a.2) (rdO b.2)
noncomputable def meetB (a b c d:DP):Bool:=(decide (sdP a b c=0) && spanB c a b) || (decide (sdP a b d=0) && spanB d a b) || (decide (sdP c d a=0) && spanB a c d) || (decide (sdP c d b=0) && spanB b c d) || (decide (sdP a b c * sdP a b d < 0) && decide (sdP c d a * sdP c d b < 0))
theorem isBetween_fn (x a b:Option Rat) (hx:okO x) (ha:okO a) (hb:okO b):Fn Tryz.prog 166 [⟨tRat,oD x⟩,⟨tRat,oD a⟩,⟨tRat,oD b⟩] false [⟨.bool,btw x a b⟩]:=by
 have c1:=ratMin_fn a b ha hb
 have c2:=ratCmp_fn x (minO a b) hx (okO_min ha hb)
 have c3:=ratMax_fn a b ha hb
 have c4:=ratCmp_fn x (maxO a b) hx (okO_max ha hb)
 unfold btw
 by_cases h:cmpO x (minO a b) ≥ 0
 ·have d1:=decide_eq_true h
  rw [d1]
  refine fe Tryz.func166 Tryz.ntmps166 Tryz.results166 fun hwf=>?_
  try simp (maxSteps:=9^9) only[go_sem]
  repeat refine AI ?_
  refine cw c1 ?_
  try simp (maxSteps:=9^9) only[go_sem]
  repeat refine AI ?_
  refine cw c2 ?_
  try simp (maxSteps:=9^9) only[go_sem]
  try simp (maxSteps:=9^9) only[go_sem,d1]
  repeat refine AI ?_
  refine cw c3 ?_
  try simp (maxSteps:=9^9) only[go_sem]
  repeat refine AI ?_
  refine cw c4 ?_
  try simp (maxSteps:=9^9) only[go_sem]
  all_goals repeat refine AI ?_
  all_goals first|kernel_rfl|omega|rfl
 ·have d1:=decide_eq_false h
  rw [d1]
  refine fe Tryz.func166 Tryz.ntmps166 Tryz.results166 fun hwf=>?_
  try simp (maxSteps:=9^9) only[go_sem]
  repeat refine AI ?_
  refine cw c1 ?_
  try simp (maxSteps:=9^9) only[go_sem]
  repeat refine AI ?_
  refine cw c2 ?_
  try simp (maxSteps:=9^9) only[go_sem]
  try simp (maxSteps:=9^9) only[go_sem,d1]
  all_goals repeat refine AI ?_
  all_goals first|kernel_rfl|omega|rfl
theorem isInSpan_fn (p a b:DP) (hp:okPt p=true) (ha:okPt a=true) (hb:okPt b=true):Fn Tryz.prog 142 [⟨tPoint,p⟩,⟨tPoint,a⟩,⟨tPoint,b⟩] false [⟨.bool,spanB p a b⟩]:=by
 have c1:=isBetween_fn (rdO p.1) (rdO a.1) (rdO b.1) (okO_rdO _) (okO_rdO _) (okO_rdO _)
 have c2:=isBetween_fn (rdO p.2) (rdO a.2) (rdO b.2) (okO_rdO _) (okO_rdO _) (okO_rdO _)
 rw [gP_1 (gP_ok hp),gP_1 (gP_ok ha),gP_1 (gP_ok hb)] at c1
 rw [gP_2 (gP_ok hp),gP_2 (gP_ok ha),gP_2 (gP_ok hb)] at c2
 unfold spanB
 cases h:btw (rdO p.1) (rdO a.1) (rdO b.1)<;>rw [h] at c1
 ·refine fe Tryz.func142 Tryz.ntmps142 Tryz.results142 fun hwf=>?_
  try simp (maxSteps:=9^9) only[go_sem]
  repeat refine AI ?_
  refine cw c1 ?_
  try simp (maxSteps:=9^9) only[go_sem]
  all_goals repeat refine AI ?_
  all_goals first|kernel_rfl|omega|rfl
 ·refine fe Tryz.func142 Tryz.ntmps142 Tryz.results142 fun hwf=>?_
  try simp (maxSteps:=9^9) only[go_sem]
  repeat refine AI ?_
  refine cw c1 ?_
  try simp (maxSteps:=9^9) only[go_sem]
  repeat refine AI ?_
  refine cw c2 ?_
  try simp (maxSteps:=9^9) only[go_sem]
  all_goals repeat refine AI ?_
  all_goals first|kernel_rfl|omega|rfl
theorem sdP_b (p q r:DP):-1<=sdP p q r/\sdP p q r<=1:=by
 unfold sdP sgnO
 split
 ·unfold cmpQ
  split
  ·omega
  ·split<;>omega
 ·omega
theorem mul3 {x y:Int} (hx:-1<=x/\x<=1) (hy:-1<=y/\y<=1):-1<=x * y/\x * y<=1:=by
 have h1:x=-1\/x=0\/x=1:=by omega
 rcases h1 with rfl|rfl|rfl<;>omega
set_option maxHeartbeats 4000000 in
theorem meet_fn (a b c d:DP) (ha:okPt a=true) (hb:okPt b=true) (hc:okPt c=true) (hd:okPt d=true):Fn Tryz.prog 99 [⟨tPoint,a⟩,⟨tPoint,b⟩,⟨tPoint,c⟩,⟨tPoint,d⟩] false [⟨.bool,meetB a b c d⟩]:=by
 have c0:=side_fn a b c ha hb hc
 have c1:=side_fn a b d ha hb hd
 have c2:=side_fn c d a hc hd ha
 have c3:=side_fn c d b hc hd hb
 have s0:=isInSpan_fn c a b hc ha hb
 have s1:=isInSpan_fn d a b hd ha hb
 have s2:=isInSpan_fn a c d ha hc hd
 have s3:=isInSpan_fn b c d hb hc hd
 have b0:=sdP_b a b c
 have b1:=sdP_b a b d
 have b2:=sdP_b c d a
 have b3:=sdP_b c d b
 unfold meetB
 generalize sdP a b c=z0 at *
 generalize sdP a b d=z1 at *
 generalize sdP c d a=z2 at *
 generalize sdP c d b=z3 at *
 generalize spanB c a b=g0 at *
 generalize spanB d a b=g1 at *
 generalize spanB a c d=g2 at *
 generalize spanB b c d=g3 at *
 have m0:=mul3 b0 b1
 have m1:=mul3 b2 b3
 refine fe Tryz.func99 Tryz.ntmps99 Tryz.results99 fun hwf=>?_
 try simp (maxSteps:=9^9) only[go_sem]
 repeat refine AI ?_
 refine cw c0 ?_
 try simp (maxSteps:=9^9) only[go_sem]
 repeat refine AI ?_
 refine cw c1 ?_
 try simp (maxSteps:=9^9) only[go_sem]
 repeat refine AI ?_
 repeat refine AI ?_
 refine cw c2 ?_
 try simp (maxSteps:=9^9) only[go_sem]
 repeat refine AI ?_
 refine cw c3 ?_
 try simp (maxSteps:=9^9) only[go_sem]
 repeat refine AI ?_
 by_cases h0:z0=0
 ·have d0:=decide_eq_true h0
  cases t0:g0<;>rw [t0] at s0
  ·try simp (maxSteps:=9^9) only[go_sem,d0]
   repeat refine AI ?_
   refine cw s0 ?_
   try simp (maxSteps:=9^9) only[go_sem]
   by_cases h1:z1=0
   ·have d1:=decide_eq_true h1
    cases t1:g1<;>rw [t1] at s1
    ·try simp (maxSteps:=9^9) only[go_sem,d1]
     repeat refine AI ?_
     refine cw s1 ?_
     try simp (maxSteps:=9^9) only[go_sem]
     by_cases h2:z2=0
     ·have d2:=decide_eq_true h2
      cases t2:g2<;>rw [t2] at s2
      ·try simp (maxSteps:=9^9) only[go_sem,d2]
       repeat refine AI ?_
       refine cw s2 ?_
       try simp (maxSteps:=9^9) only[go_sem]
       by_cases h3:z3=0
       ·have d3:=decide_eq_true h3
        cases t3:g3<;>rw [t3] at s3
        ·try simp (maxSteps:=9^9) only[go_sem,d3]
         repeat refine AI ?_
         refine cw s3 ?_
         try simp (maxSteps:=9^9) only[go_sem]
         by_cases q0:z0 * z1 < 0
         ·have e0:=decide_eq_true q0
          try simp (maxSteps:=9^9) only[go_sem,e0]
          repeat refine AI ?_
          all_goals first|omega|(simp [h0,h1,h2,h3,q0]; done)
         ·have e0:=decide_eq_false q0
          try simp (maxSteps:=9^9) only[go_sem,e0]
          repeat refine AI ?_
          all_goals first|omega|(simp [h0,h1,h2,h3,q0]; done)
        ·try simp (maxSteps:=9^9) only[go_sem,d3]
         repeat refine AI ?_
         refine cw s3 ?_
         try simp (maxSteps:=9^9) only[go_sem]
         all_goals first|omega|(simp [h0,h1,h2,h3]; done)
       ·have d3:=decide_eq_false h3
        try simp (maxSteps:=9^9) only[go_sem,d3]
        by_cases q0:z0 * z1 < 0
        ·have e0:=decide_eq_true q0
         try simp (maxSteps:=9^9) only[go_sem,e0]
         repeat refine AI ?_
         all_goals first|omega|(simp [h0,h1,h2,h3,q0]; done)
        ·have e0:=decide_eq_false q0
         try simp (maxSteps:=9^9) only[go_sem,e0]
         repeat refine AI ?_
         all_goals first|omega|(simp [h0,h1,h2,h3,q0]; done)
      ·try simp (maxSteps:=9^9) only[go_sem,d2]
       repeat refine AI ?_
       refine cw s2 ?_
       try simp (maxSteps:=9^9) only[go_sem]
       all_goals first|omega|(simp [h0,h1,h2]; done)
     ·have d2:=decide_eq_false h2
      try simp (maxSteps:=9^9) only[go_sem,d2]
      by_cases h3:z3=0
      ·have d3:=decide_eq_true h3
       cases t3:g3<;>rw [t3] at s3
       ·try simp (maxSteps:=9^9) only[go_sem,d3]
        repeat refine AI ?_
        refine cw s3 ?_
        try simp (maxSteps:=9^9) only[go_sem]
        by_cases q0:z0 * z1 < 0
        ·have e0:=decide_eq_true q0
         try simp (maxSteps:=9^9) only[go_sem,e0]
         repeat refine AI ?_
         all_goals first|omega|(simp [h0,h1,h2,h3,q0]; done)
        ·have e0:=decide_eq_false q0
         try simp (maxSteps:=9^9) only[go_sem,e0]
         repeat refine AI ?_
         all_goals first|omega|(simp [h0,h1,h2,h3,q0]; done)
       ·try simp (maxSteps:=9^9) only[go_sem,d3]
        repeat refine AI ?_
        refine cw s3 ?_
        try simp (maxSteps:=9^9) only[go_sem]
        all_goals first|omega|(simp [h0,h1,h2,h3]; done)
      ·have d3:=decide_eq_false h3
       try simp (maxSteps:=9^9) only[go_sem,d3]
       by_cases q0:z0 * z1 < 0
       ·have e0:=decide_eq_true q0
        try simp (maxSteps:=9^9) only[go_sem,e0]
        repeat refine AI ?_
        all_goals first|omega|(simp [h0,h1,h2,h3,q0]; done)
       ·have e0:=decide_eq_false q0
        try simp (maxSteps:=9^9) only[go_sem,e0]
        repeat refine AI ?_
        all_goals first|omega|(simp [h0,h1,h2,h3,q0]; done)
    ·try simp (maxSteps:=9^9) only[go_sem,d1]
     repeat refine AI ?_
     refine cw s1 ?_
     try simp (maxSteps:=9^9) only[go_sem]
     all_goals first|omega|(simp [h0,h1]; done)
   ·have d1:=decide_eq_false h1
    try simp (maxSteps:=9^9) only[go_sem,d1]
    by_cases h2:z2=0
    ·have d2:=decide_eq_true h2
     cases t2:g2<;>rw [t2] at s2
     ·try simp (maxSteps:=9^9) only[go_sem,d2]
      repeat refine AI ?_
      refine cw s2 ?_
      try simp (maxSteps:=9^9) only[go_sem]
      by_cases h3:z3=0
      ·have d3:=decide_eq_true h3
       cases t3:g3<;>rw [t3] at s3
       ·try simp (maxSteps:=9^9) only[go_sem,d3]
        repeat refine AI ?_
        refine cw s3 ?_
        try simp (maxSteps:=9^9) only[go_sem]
        by_cases q0:z0 * z1 < 0
        ·have e0:=decide_eq_true q0
         try simp (maxSteps:=9^9) only[go_sem,e0]
         repeat refine AI ?_
         all_goals first|omega|(simp [h0,h1,h2,h3,q0]; done)
        ·have e0:=decide_eq_false q0
         try simp (maxSteps:=9^9) only[go_sem,e0]
         repeat refine AI ?_
         all_goals first|omega|(simp [h0,h1,h2,h3,q0]; done)
       ·try simp (maxSteps:=9^9) only[go_sem,d3]
        repeat refine AI ?_
        refine cw s3 ?_
        try simp (maxSteps:=9^9) only[go_sem]
        all_goals first|omega|(simp [h0,h1,h2,h3]; done)
      ·have d3:=decide_eq_false h3
       try simp (maxSteps:=9^9) only[go_sem,d3]
       by_cases q0:z0 * z1 < 0
       ·have e0:=decide_eq_true q0
        try simp (maxSteps:=9^9) only[go_sem,e0]
        repeat refine AI ?_
        all_goals first|omega|(simp [h0,h1,h2,h3,q0]; done)
       ·have e0:=decide_eq_false q0
        try simp (maxSteps:=9^9) only[go_sem,e0]
        repeat refine AI ?_
        all_goals first|omega|(simp [h0,h1,h2,h3,q0]; done)
     ·try simp (maxSteps:=9^9) only[go_sem,d2]
      repeat refine AI ?_
      refine cw s2 ?_
      try simp (maxSteps:=9^9) only[go_sem]
      all_goals first|omega|(simp [h0,h1,h2]; done)
    ·have d2:=decide_eq_false h2
     try simp (maxSteps:=9^9) only[go_sem,d2]
     by_cases h3:z3=0
     ·have d3:=decide_eq_true h3
      cases t3:g3<;>rw [t3] at s3
      ·try simp (maxSteps:=9^9) only[go_sem,d3]
       repeat refine AI ?_
       refine cw s3 ?_
       try simp (maxSteps:=9^9) only[go_sem]
       by_cases q0:z0 * z1 < 0
       ·have e0:=decide_eq_true q0
        try simp (maxSteps:=9^9) only[go_sem,e0]
        repeat refine AI ?_
        all_goals first|omega|(simp [h0,h1,h2,h3,q0]; done)
       ·have e0:=decide_eq_false q0
        try simp (maxSteps:=9^9) only[go_sem,e0]
        repeat refine AI ?_
        all_goals first|omega|(simp [h0,h1,h2,h3,q0]; done)
      ·try simp (maxSteps:=9^9) only[go_sem,d3]
       repeat refine AI ?_
       refine cw s3 ?_
       try simp (maxSteps:=9^9) only[go_sem]
       all_goals first|omega|(simp [h0,h1,h2,h3]; done)
     ·have d3:=decide_eq_false h3
      try simp (maxSteps:=9^9) only[go_sem,d3]
      by_cases q0:z0 * z1 < 0
      ·have e0:=decide_eq_true q0
       try simp (maxSteps:=9^9) only[go_sem,e0]
       repeat refine AI ?_
       all_goals first|omega|(simp [h0,h1,h2,h3,q0]; done)
      ·have e0:=decide_eq_false q0
       try simp (maxSteps:=9^9) only[go_sem,e0]
       repeat refine AI ?_
       all_goals first|omega|(simp [h0,h1,h2,h3,q0]; done)
  ·try simp (maxSteps:=9^9) only[go_sem,d0]
   repeat refine AI ?_
   refine cw s0 ?_
   try simp (maxSteps:=9^9) only[go_sem]
   all_goals first|omega|(simp [h0]; done)
 ·have d0:=decide_eq_false h0
  try simp (maxSteps:=9^9) only[go_sem,d0]
  by_cases h1:z1=0
  ·have d1:=decide_eq_true h1
   cases t1:g1<;>rw [t1] at s1
   ·try simp (maxSteps:=9^9) only[go_sem,d1]
    repeat refine AI ?_
    refine cw s1 ?_
    try simp (maxSteps:=9^9) only[go_sem]
    by_cases h2:z2=0
    ·have d2:=decide_eq_true h2
     cases t2:g2<;>rw [t2] at s2
     ·try simp (maxSteps:=9^9) only[go_sem,d2]
      repeat refine AI ?_
      refine cw s2 ?_
      try simp (maxSteps:=9^9) only[go_sem]
      by_cases h3:z3=0
      ·have d3:=decide_eq_true h3
       cases t3:g3<;>rw [t3] at s3
       ·try simp (maxSteps:=9^9) only[go_sem,d3]
        repeat refine AI ?_
        refine cw s3 ?_
        try simp (maxSteps:=9^9) only[go_sem]
        by_cases q0:z0 * z1 < 0
        ·have e0:=decide_eq_true q0
         try simp (maxSteps:=9^9) only[go_sem,e0]
         repeat refine AI ?_
         all_goals first|omega|(simp [h0,h1,h2,h3,q0]; done)
        ·have e0:=decide_eq_false q0
         try simp (maxSteps:=9^9) only[go_sem,e0]
         repeat refine AI ?_
         all_goals first|omega|(simp [h0,h1,h2,h3,q0]; done)
       ·try simp (maxSteps:=9^9) only[go_sem,d3]
        repeat refine AI ?_
        refine cw s3 ?_
        try simp (maxSteps:=9^9) only[go_sem]
        all_goals first|omega|(simp [h0,h1,h2,h3]; done)
      ·have d3:=decide_eq_false h3
       try simp (maxSteps:=9^9) only[go_sem,d3]
       by_cases q0:z0 * z1 < 0
       ·have e0:=decide_eq_true q0
        try simp (maxSteps:=9^9) only[go_sem,e0]
        repeat refine AI ?_
        all_goals first|omega|(simp [h0,h1,h2,h3,q0]; done)
       ·have e0:=decide_eq_false q0
        try simp (maxSteps:=9^9) only[go_sem,e0]
        repeat refine AI ?_
        all_goals first|omega|(simp [h0,h1,h2,h3,q0]; done)
     ·try simp (maxSteps:=9^9) only[go_sem,d2]
      repeat refine AI ?_
      refine cw s2 ?_
      try simp (maxSteps:=9^9) only[go_sem]
      all_goals first|omega|(simp [h0,h1,h2]; done)
    ·have d2:=decide_eq_false h2
     try simp (maxSteps:=9^9) only[go_sem,d2]
     by_cases h3:z3=0
     ·have d3:=decide_eq_true h3
      cases t3:g3<;>rw [t3] at s3
      ·try simp (maxSteps:=9^9) only[go_sem,d3]
       repeat refine AI ?_
       refine cw s3 ?_
       try simp (maxSteps:=9^9) only[go_sem]
       by_cases q0:z0 * z1 < 0
       ·have e0:=decide_eq_true q0
        try simp (maxSteps:=9^9) only[go_sem,e0]
        repeat refine AI ?_
        all_goals first|omega|(simp [h0,h1,h2,h3,q0]; done)
       ·have e0:=decide_eq_false q0
        try simp (maxSteps:=9^9) only[go_sem,e0]
        repeat refine AI ?_
        all_goals first|omega|(simp [h0,h1,h2,h3,q0]; done)
      ·try simp (maxSteps:=9^9) only[go_sem,d3]
       repeat refine AI ?_
       refine cw s3 ?_
       try simp (maxSteps:=9^9) only[go_sem]
       all_goals first|omega|(simp [h0,h1,h2,h3]; done)
     ·have d3:=decide_eq_false h3
      try simp (maxSteps:=9^9) only[go_sem,d3]
      by_cases q0:z0 * z1 < 0
      ·have e0:=decide_eq_true q0
       try simp (maxSteps:=9^9) only[go_sem,e0]
       repeat refine AI ?_
       all_goals first|omega|(simp [h0,h1,h2,h3,q0]; done)
      ·have e0:=decide_eq_false q0
       try simp (maxSteps:=9^9) only[go_sem,e0]
       repeat refine AI ?_
       all_goals first|omega|(simp [h0,h1,h2,h3,q0]; done)
   ·try simp (maxSteps:=9^9) only[go_sem,d1]
    repeat refine AI ?_
    refine cw s1 ?_
    try simp (maxSteps:=9^9) only[go_sem]
    all_goals first|omega|(simp [h0,h1]; done)
  ·have d1:=decide_eq_false h1
   try simp (maxSteps:=9^9) only[go_sem,d1]
   by_cases h2:z2=0
   ·have d2:=decide_eq_true h2
    cases t2:g2<;>rw [t2] at s2
    ·try simp (maxSteps:=9^9) only[go_sem,d2]
     repeat refine AI ?_
     refine cw s2 ?_
     try simp (maxSteps:=9^9) only[go_sem]
     by_cases h3:z3=0
     ·have d3:=decide_eq_true h3
      cases t3:g3<;>rw [t3] at s3
      ·try simp (maxSteps:=9^9) only[go_sem,d3]
       repeat refine AI ?_
       refine cw s3 ?_
       try simp (maxSteps:=9^9) only[go_sem]
       by_cases q0:z0 * z1 < 0
       ·have e0:=decide_eq_true q0
        try simp (maxSteps:=9^9) only[go_sem,e0]
        repeat refine AI ?_
        all_goals first|omega|(simp [h0,h1,h2,h3,q0]; done)
       ·have e0:=decide_eq_false q0
        try simp (maxSteps:=9^9) only[go_sem,e0]
        repeat refine AI ?_
        all_goals first|omega|(simp [h0,h1,h2,h3,q0]; done)
      ·try simp (maxSteps:=9^9) only[go_sem,d3]
       repeat refine AI ?_
       refine cw s3 ?_
       try simp (maxSteps:=9^9) only[go_sem]
       all_goals first|omega|(simp [h0,h1,h2,h3]; done)
     ·have d3:=decide_eq_false h3
      try simp (maxSteps:=9^9) only[go_sem,d3]
      by_cases q0:z0 * z1 < 0
      ·have e0:=decide_eq_true q0
       try simp (maxSteps:=9^9) only[go_sem,e0]
       repeat refine AI ?_
       all_goals first|omega|(simp [h0,h1,h2,h3,q0]; done)
      ·have e0:=decide_eq_false q0
       try simp (maxSteps:=9^9) only[go_sem,e0]
       repeat refine AI ?_
       all_goals first|omega|(simp [h0,h1,h2,h3,q0]; done)
    ·try simp (maxSteps:=9^9) only[go_sem,d2]
     repeat refine AI ?_
     refine cw s2 ?_
     try simp (maxSteps:=9^9) only[go_sem]
     all_goals first|omega|(simp [h0,h1,h2]; done)
   ·have d2:=decide_eq_false h2
    try simp (maxSteps:=9^9) only[go_sem,d2]
    by_cases h3:z3=0
    ·have d3:=decide_eq_true h3
     cases t3:g3<;>rw [t3] at s3
     ·try simp (maxSteps:=9^9) only[go_sem,d3]
      repeat refine AI ?_
      refine cw s3 ?_
      try simp (maxSteps:=9^9) only[go_sem]
      by_cases q0:z0 * z1 < 0
      ·have e0:=decide_eq_true q0
       try simp (maxSteps:=9^9) only[go_sem,e0]
       repeat refine AI ?_
       all_goals first|omega|(simp [h0,h1,h2,h3,q0]; done)
      ·have e0:=decide_eq_false q0
       try simp (maxSteps:=9^9) only[go_sem,e0]
       repeat refine AI ?_
       all_goals first|omega|(simp [h0,h1,h2,h3,q0]; done)
     ·try simp (maxSteps:=9^9) only[go_sem,d3]
      repeat refine AI ?_
      refine cw s3 ?_
      try simp (maxSteps:=9^9) only[go_sem]
      all_goals first|omega|(simp [h0,h1,h2,h3]; done)
    ·have d3:=decide_eq_false h3
     try simp (maxSteps:=9^9) only[go_sem,d3]
     by_cases q0:z0 * z1 < 0
     ·have e0:=decide_eq_true q0
      try simp (maxSteps:=9^9) only[go_sem,e0]
      repeat refine AI ?_
      all_goals first|omega|(simp [h0,h1,h2,h3,q0]; done)
     ·have e0:=decide_eq_false q0
      try simp (maxSteps:=9^9) only[go_sem,e0]
      repeat refine AI ?_
      all_goals first|omega|(simp [h0,h1,h2,h3,q0]; done)
end Go.Proofs.YtbopoblkoainjaaGreat.DW

namespace Go.Proofs.YtbopoblkoainjaaGreat.DW
open Go.RowKit
noncomputable def smI_ (l:List DV) (p q:DP) (i:Nat):Bool:=meetB p q (ptV (nth (t:=tVec) l i)) (ptV (nth (t:=tVec) l (nxt l.length i).toNat))
def smAny (l:List DV) (p q:DP):Prop:=∃ i,i < l.length/\smI_ l p q i=true
noncomputable def segB (l:List DV) (p q:DP):Bool:=decide (cntI l p l.length ≥ 0) || (decide (cntI l q l.length ≥ 0) || bdec (smAny l p q))
theorem segmentMeets_fn (l:List DV) (p q:DP) (hl:polyP l) (hp:okPt p=true) (hq:okPt q=true):Fn Tryz.prog 60 [⟨.slice tVec,l⟩,⟨tPoint,p⟩,⟨tPoint,q⟩] false [⟨.bool,segB l p q⟩]:=by
 have h3:3<=l.length:=by have:=hl.1.1; omega
 have hn:l.length<=1048576:=by have:=hl.1.2; omega
 have c1:=contains_fn l p hl.2.1 hn hp
 have c2:=contains_fn l q hl.2.1 hn hq
 have c3:=pointsOf_fn l hn
 have hml:(l.map ptV).length=l.length:=List.length_map ..
 have ptok:∀ i,i < l.length->okPt (ptV (nth (t:=tVec) l i))=true:=fun i hi=>okPt_ptV (hl.2.1 _ (nth_mem hi))
 unfold segB
 by_cases h1:cntI l p l.length ≥ 0
 ·have d1:=decide_eq_true h1
  rw [d1]
  refine fe Tryz.func60 Tryz.ntmps60 Tryz.results60 fun hwf=>?_
  try simp (maxSteps:=9^9) only[go_sem]
  repeat refine AI ?_
  refine cw c1 ?_
  try simp (maxSteps:=9^9) only[go_sem]
  try simp (maxSteps:=9^9) only[go_sem,d1]
  all_goals repeat refine AI ?_
  all_goals first|kernel_rfl|omega|rfl
 ·have d1:=decide_eq_false h1
  rw [d1]
  by_cases h2:cntI l q l.length ≥ 0
  ·have d2:=decide_eq_true h2
   rw [d2]
   refine fe Tryz.func60 Tryz.ntmps60 Tryz.results60 fun hwf=>?_
   try simp (maxSteps:=9^9) only[go_sem]
   repeat refine AI ?_
   refine cw c1 ?_
   try simp (maxSteps:=9^9) only[go_sem]
   try simp (maxSteps:=9^9) only[go_sem,d1]
   repeat refine AI ?_
   refine cw c2 ?_
   try simp (maxSteps:=9^9) only[go_sem]
   try simp (maxSteps:=9^9) only[go_sem,d2]
   all_goals repeat refine AI ?_
   all_goals first|kernel_rfl|omega|rfl
  ·have d2:=decide_eq_false h2
   rw [d2]
   refine fe Tryz.func60 Tryz.ntmps60 Tryz.results60 fun hwf=>?_
   try simp (maxSteps:=9^9) only[go_sem]
   repeat refine AI ?_
   refine cw c1 ?_
   try simp (maxSteps:=9^9) only[go_sem]
   try simp (maxSteps:=9^9) only[go_sem,d1]
   repeat refine AI ?_
   refine cw c2 ?_
   try simp (maxSteps:=9^9) only[go_sem]
   try simp (maxSteps:=9^9) only[go_sem,d2]
   repeat refine AI ?_
   refine cw c3 ?_
   try simp (maxSteps:=9^9) only[go_sem]
   try simp (maxSteps:=9^9) only[go_sem,hml]
   refine LoopG.intro _ _ _ (fun i:Nat=>⟨[(4,.ptr 0 0),(5,.ptr 1 0),(7,.sl tPoint (l.map ptV)),(22,.sl tPoint (l.map ptV)),(23,.sc (.int .i64 l.length)),(24,.sc (.int .i64 i))],[(1,.box (cel tPoint q)),(0,.box (cel tPoint p))]⟩) (fun i=>∀ j,j < i->j < l.length->smI_ l p q j=false) (fun i=>l.length - i) 0 ?_ (fun j h=>absurd h (Nat.not_lt_zero _)) ?_
   ·exact WK
   ·rintro i hi
    try simp (maxSteps:=9^9) only[go_sem]
    refine CondW_dec (fun hA=>?_) (fun hA=>?_)
    ·have hlt:i < l.length:=by omega
     have hr:=nxt_rng (n:=l.length) (i:=i) (by omega)
     have hr2:(nxt l.length i).toNat < l.length:=by omega
     have c4:=meet_fn p q (ptV (nth (t:=tVec) l i)) (ptV (nth (t:=tVec) l (nxt l.length i).toNat)) hp hq (ptok _ (by omega)) (ptok _ hr2)
     rw [show meetB p q (ptV (nth (t:=tVec) l i)) (ptV (nth (t:=tVec) l (nxt l.length i).toNat))=smI_ l p q i from rfl] at c4
     rw [<-nth_ptV hlt,<-nth_ptV hr2] at c4
     unfold nxt at hr hr2 c4
     cases hs:smI_ l p q i<;>rw [hs] at c4
     ·try simp (maxSteps:=9^9) only[go_sem,hml]
      repeat refine AI ?_
      refine RemW.pos (by omega) (by omega) ?_
      try simp (maxSteps:=9^9) only[go_sem,hml]
      repeat refine AI ?_
      repeat refine AI ?_
      refine cw c4 ?_
      try simp (maxSteps:=9^9) only[go_sem]
      repeat refine AI ?_
      refine LoopK.mk (i+1) ?_ (fun j h1 h2=>?_) (by omega)
      ·exact WK
      ·by_cases h:j < i
       ·exact hi j h h2
       ·rw [show j=i by omega]; exact hs
     ·have e:bdec (smAny l p q)=true:=bdec_t ⟨i,hlt,hs⟩
      rw [e]
      try simp (maxSteps:=9^9) only[go_sem,hml]
      repeat refine AI ?_
      refine RemW.pos (by omega) (by omega) ?_
      try simp (maxSteps:=9^9) only[go_sem,hml]
      repeat refine AI ?_
      repeat refine AI ?_
      refine cw c4 ?_
      try simp (maxSteps:=9^9) only[go_sem]
      all_goals repeat refine AI ?_
      all_goals first|kernel_rfl|omega|rfl
    ·have e:bdec (smAny l p q)=false:=bdec_f (by rintro ⟨j,h1,h2⟩; rw [hi j (by omega) h1] at h2; cases h2)
     rw [e]
     try simp (maxSteps:=9^9) only[go_sem]
     all_goals repeat refine AI ?_
     all_goals first|kernel_rfl|omega|rfl
noncomputable def sgmB (l:List DV) (p q:DP):Bool:=okPt p && (okPt q && segB l p q)
structure ScP (s:DSc):Prop where
 low:inB 200 s.1=true
 high:inB 200 s.2.1=true
 rob:SmP 20 s.2.2.1
 obs:∀ l ∈ s.2.2.2.1,SmP 200 l
 nobs:s.2.2.2.1.length<=4
 ntab:s.2.2.2.2.length<=3
 tabs:∀ v ∈ s.2.2.2.2,inB 200 v=true
 lx:s.1.1 < s.2.1.1
 ly:s.1.2 < s.2.1.2
theorem allIn_all {k:Int} {l:List DV} (h:allIn k l=true):∀ v ∈ l,inB k v=true:=fun v hv=>by
 unfold allIn at h
 rw [Bool.not_eq_true',List.any_eq_false] at h
 simpa using h v hv
theorem scene_p {s:DSc} (h:sceneB s=true):ScP s:=by
 unfold sceneB obsOK at h
 simp only [Bool.and_eq_true] at h
 obtain ⟨h1,h2,h3,h4,h5,h6,h7,h8⟩:=h
 have ha:=allIn_all h1
 refine ⟨ha _ (by simp),ha _ (by simp),smB_p h4,fun l hl=>smB_p ?_,?_,?_,allIn_all h8,of_decide_eq_true h2,of_decide_eq_true h3⟩
 ·rw [Bool.not_eq_true',List.any_eq_false] at h6
  simpa using h6 l hl
 ·have:=of_decide_eq_true h5; omega
 ·have:=of_decide_eq_true h7; omega
def robS (s:DSc) (h:Int):List DV:=s.2.2.1.map (rotN h.toNat)
theorem robS_sm {s:DSc} (hs:sceneB s=true) (h:Int):SmP 20 (robS s h):=(scene_p hs).rob.rot _
def widI (l:List DV):Nat->DV × DV
 | 0=>(nth (t:=tVec) l 0,nth (t:=tVec) l 0)
 | i+1=>((min (widI l i).1.1 (nth (t:=tVec) l i).1,min (widI l i).1.2 (nth (t:=tVec) l i).2),(max (widI l i).2.1 (nth (t:=tVec) l i).1,max (widI l i).2.2 (nth (t:=tVec) l i).2))
theorem widI_b {k:Int} {l:List DV} (h:∀ v ∈ l,inB k v=true) (h0:0 < l.length):∀ i,i<=l.length->((-k<=(widI l i).1.1/\(widI l i).1.1<=k)/\(-k<=(widI l i).1.2/\(widI l i).1.2<=k))/\((-k<=(widI l i).2.1/\(widI l i).2.1<=k)/\(-k<=(widI l i).2.2/\(widI l i).2.2<=k))
 | 0,_=>by
  have:=inB_b (h _ (nth_mem h0))
  unfold widI
  simp only
  omega
 | i+1,hi=>by
  have h1:=widI_b h h0 i (by omega)
  have h2:=inB_b (h _ (nth_mem (i:=i) (by omega)))
  unfold widI
  simp only
  omega
def widD (l:List DV):DV × DV:=widI l l.length
def boxD (s:DSc) (h:Int):DV × DV:=((s.1.1 - (widD (robS s h)).1.1,s.1.2 - (widD (robS s h)).1.2),(s.2.1.1 - (widD (robS s h)).2.1,s.2.1.2 - (widD (robS s h)).2.2))
def hdB (h:Int):Bool:=decide (0<=h/\h<=3)
def limB (s:DSc) (h:Int):Bool:=decide ((boxD s h).1.1 < (boxD s h).2.1) && decide ((boxD s h).1.2 < (boxD s h).2.2)
noncomputable def opnB (s:DSc) (h:Int):Bool:=sceneB s && (hdB h && limB s h)
noncomputable def arsD (s:DSc) (h:Int):List (List DV):=s.2.2.2.1.map (obsD (robS s h))
theorem wid_b {s:DSc} (hs:sceneB s=true) (h:Int):((-20<=(widD (robS s h)).1.1/\(widD (robS s h)).1.1<=20)/\(-20<=(widD (robS s h)).1.2/\(widD (robS s h)).1.2<=20))/\((-20<=(widD (robS s h)).2.1/\(widD (robS s h)).2.1<=20)/\(-20<=(widD (robS s h)).2.2/\(widD (robS s h)).2.2<=20)):=by
 have h1:=robS_sm hs h
 exact widI_b h1.ins (by have:=h1.poly.1.1; omega) _ (Nat.le_refl _)
theorem box_b {s:DSc} (hs:sceneB s=true) (h:Int):((-220<=(boxD s h).1.1/\(boxD s h).1.1<=220)/\(-220<=(boxD s h).1.2/\(boxD s h).1.2<=220))/\((-220<=(boxD s h).2.1/\(boxD s h).2.1<=220)/\(-220<=(boxD s h).2.2/\(boxD s h).2.2<=220)):=by
 have h1:=wid_b hs h
 have h2:=inB_b (scene_p hs).low
 have h3:=inB_b (scene_p hs).high
 unfold boxD
 simp only
 omega
theorem ars_poly {s:DSc} (hs:sceneB s=true) (h:Int):∀ l ∈ arsD s h,polyP l:=fun l hl=>by
 obtain ⟨o,ho,rfl⟩:=List.mem_map.1 hl
 exact obs_poly (robS_sm hs h) ((scene_p hs).obs o ho) (by decide)
theorem ars_len (s:DSc) (h:Int):(arsD s h).length=s.2.2.2.1.length:=List.length_map ..
noncomputable def inBx (b:DV × DV) (p:DP):Bool:=decide (cmpO (rdO p.1) (some ((b.1.1:Int):Rat)) > 0) && (decide (cmpO (rdO p.1) (some ((b.2.1:Int):Rat)) < 0) && (decide (cmpO (rdO p.2) (some ((b.1.2:Int):Rat)) > 0) && decide (cmpO (rdO p.2) (some ((b.2.2:Int):Rat)) < 0)))
noncomputable def freB (s:DSc) (h:Int) (p:DP):Bool:=okPt p && (opnB s h && (inBx (boxD s h) p && !((arsD s h).any fun l=>decide (cpD l p ≥ 0))))
noncomputable def freM (s:DSc) (h:Int) (p q:DP):Bool:=freB s h p && (freB s h q && !((arsD s h).any fun l=>sgmB l p q))
noncomputable def spcD (s:DSc) (h:Int):Bool × ((DV × DV) × List (List DV)):=(opnB s h,(if opnB s h then boxD s h else ((0,0),(0,0)),if sceneB s && hdB h then arsD s h else []))
end Go.Proofs.YtbopoblkoainjaaGreat.DW

namespace Go.Proofs.YtbopoblkoainjaaGreat.CG
theorem mul_nn {x y:Rat} (h:0<=x) (k:0<=y):0<=x * y:=Rat.mul_nonneg h k
theorem sq_nn (x:Rat):0<=x * x:=by
 by_cases h:0<=x
 ·exact mul_nn h h
 ·have:=mul_nn (show 0<=-x by grind) (show 0<=-x by grind)
  grind
theorem quo (x:Rat) {y:Rat} (h:0 < y):∃ l:Rat,l * y=x:=⟨x / y,by grind⟩
theorem quo_nn {l y:Rat} (h:0 < y) (k:0<=l * y):0<=l:=by
 by_cases c:0<=l
 ·exact c
 ·have:=Rat.mul_pos (show 0 < -l by grind) h
  grind
theorem quo_le {l m y:Rat} (h:0 < y) (k:l * y<=m * y):l<=m:=by
 have:=quo_nn (l:=m - l) h (by grind)
 grind
theorem mul_mono {l m y:Rat} (h:0<=y) (k:l<=m):l * y<=m * y:=by
 have:=mul_nn (show 0<=m - l by grind) h
 grind
theorem exit1 (x a:Rat) (h0:0<=x) (h1:x<=1):∃ l:Rat,0<=l/\l<=1/\(∀ m:Rat,0<=m->m<=l->0<=x+m * a/\x+m * a<=1)/\(l=1/\0<=x+a/\x+a<=1\/x+l * a=0\/x+l * a=1):=by
 by_cases c1:x+a < 0
 ·have hp:0 < -a:=by grind
  obtain ⟨l,hl⟩:=quo x hp
  have l0:=quo_nn hp (show 0<=l * -a by grind)
  have l1:=quo_le (m:=1) hp (show l * -a<=1 * -a by grind)
  refine ⟨l,l0,l1,fun m m0 ml=>?_,.inr (.inl (by grind))⟩
  have e1:=mul_mono (y:=-a) (by grind) ml
  have e2:=mul_nn m0 (show 0<=-a by grind)
  constructor<;>grind
 ·by_cases c2:1 < x+a
  ·have hp:0 < a:=by grind
   obtain ⟨l,hl⟩:=quo (1 - x) hp
   have l0:=quo_nn hp (show 0<=l * a by grind)
   have l1:=quo_le (m:=1) hp (show l * a<=1 * a by grind)
   refine ⟨l,l0,l1,fun m m0 ml=>?_,.inr (.inr (by grind))⟩
   have e1:=mul_mono (y:=a) (by grind) ml
   have e2:=mul_nn m0 (show 0<=a by grind)
   constructor<;>grind
  ·refine ⟨1,by decide,Rat.le_refl,fun m m0 m1=>?_,.inl ⟨rfl,by grind,by grind⟩⟩
   by_cases ha:0<=a
   ·have e1:=mul_mono ha m1
    have e2:=mul_nn m0 ha
    constructor<;>grind
   ·have e1:=mul_mono (y:=-a) (by grind) m1
    have e2:=mul_nn m0 (show 0<=-a by grind)
    constructor<;>grind
theorem exit2 (x y a b:Rat) (x0:0<=x) (x1:x<=1) (y0:0<=y) (y1:y<=1) (h:¬ ((0<=x+a/\x+a<=1)/\(0<=y+b/\y+b<=1))):∃ l:Rat,(0<=l/\l<=1)/\(0<=x+l * a/\x+l * a<=1)/\(0<=y+l * b/\y+l * b<=1)/\(x+l * a=0\/x+l * a=1\/y+l * b=0\/y+l * b=1):=by
 obtain ⟨l,l0,l1,lr,lc⟩:=exit1 x a x0 x1
 obtain ⟨m,m0,m1,mr,mc⟩:=exit1 y b y0 y1
 by_cases c:l<=m
 ·refine ⟨l,⟨l0,l1⟩,lr l l0 Rat.le_refl,mr l l0 c,?_⟩
  rcases lc with ⟨rfl,e1,e2⟩|e|e
  ·rcases mc with ⟨rfl,e3,e4⟩|e|e
   ·exact absurd ⟨⟨e1,e2⟩,e3,e4⟩ h
   ·have:m=1:=by grind
    subst this
    exact .inr (.inr (.inl e))
   ·have:m=1:=by grind
    subst this
    exact .inr (.inr (.inr e))
  ·exact .inl e
  ·exact .inr (.inl e)
 ·refine ⟨m,⟨m0,m1⟩,lr m m0 (by grind),mr m m0 Rat.le_refl,?_⟩
  rcases mc with ⟨rfl,e3,e4⟩|e|e
  ·exact absurd l1 (by grind)
  ·exact .inr (.inr (.inl e))
  ·exact .inr (.inr (.inr e))
def d2 (x y u v:Rat):Rat:=(x - u) * (x - u)+(y - v) * (y - v)
def gx (p u a v s t:Rat):Rat:=p+s * u - a - t * v
theorem kern (u1 u2 v1 v2:Rat) (h:u1 * v2 - u2 * v1=0):∃ a b:Rat,u1 * a=v1 * b/\u2 * a=v2 * b/\(a=2\/b=2):=by
 by_cases c1:v1=0
 ·by_cases c2:u1=0
  ·by_cases c3:v2=0
   ·by_cases c4:u2=0
    ·exact ⟨2,0,by grind,by grind,.inl rfl⟩
    ·exact ⟨0,2,by grind,by grind,.inr rfl⟩
   ·obtain ⟨k,hk⟩:∃ k:Rat,k * v2=2 * u2:=⟨2 * u2 / v2,by grind⟩
    exact ⟨2,k,by grind,by grind,.inl rfl⟩
  ·have hv2:v2=0:=by
    have:u1 * v2=0:=by grind
    rcases Rat.mul_eq_zero.1 this with e|e
    ·exact absurd e c2
    ·exact e
   exact ⟨0,2,by grind,by grind,.inr rfl⟩
 ·obtain ⟨k,hk⟩:∃ k:Rat,k * v1=2 * u1:=⟨2 * u1 / v1,by grind⟩
  refine ⟨2,k,by grind,?_,.inl rfl⟩
  have:(u2 * 2 - v2 * k) * v1=0:=by grind
  rcases Rat.mul_eq_zero.1 this with e|e
  ·grind
  ·exact absurd e c1
theorem seg {p1 p2 u1 u2 a1 a2 v1 v2 s t:Rat} (s0:0<=s) (s1:s<=1) (t0:0<=t) (t1:t<=1) (hn:∀ s t:Rat,0<=s->s<=1->0<=t->t<=1->¬ (gx p1 u1 a1 v1 s t=0/\gx p2 u2 a2 v2 s t=0)) :
  ∃ s' t':Rat,(0<=s'/\s'<=1)/\(0<=t'/\t'<=1)/\(s'=0\/s'=1\/t'=0\/t'=1)/\gx p1 u1 a1 v1 s' t' * gx p1 u1 a1 v1 s' t'+gx p2 u2 a2 v2 s' t' * gx p2 u2 a2 v2 s' t'<=gx p1 u1 a1 v1 s t * gx p1 u1 a1 v1 s t+gx p2 u2 a2 v2 s t * gx p2 u2 a2 v2 s t:=by
 by_cases hc:u1 * v2 - u2 * v1=0
 ·obtain ⟨a,b,e1,e2,hab⟩:=kern u1 u2 v1 v2 hc
  obtain ⟨l,_,hx,hy,hb⟩:=exit2 s t a b s0 s1 t0 t1 (by rintro ⟨⟨h1,h2⟩,h3,h4⟩; rcases hab with rfl|rfl<;>grind)
  refine ⟨_,_,hx,hy,hb,?_⟩
  have g1:gx p1 u1 a1 v1 (s+l * a) (t+l * b)=gx p1 u1 a1 v1 s t:=by unfold gx; grind
  have g2:gx p2 u2 a2 v2 (s+l * a) (t+l * b)=gx p2 u2 a2 v2 s t:=by unfold gx; grind
  rw [g1,g2]
  exact Rat.le_refl
 ·obtain ⟨a,ha⟩:∃ a:Rat,a * (u1 * v2 - u2 * v1)=v1 * gx p2 u2 a2 v2 s t - v2 * gx p1 u1 a1 v1 s t:=⟨(v1 * gx p2 u2 a2 v2 s t - v2 * gx p1 u1 a1 v1 s t) / (u1 * v2 - u2 * v1),by grind⟩
  obtain ⟨b,hb⟩:∃ b:Rat,b * (u1 * v2 - u2 * v1)=u1 * gx p2 u2 a2 v2 s t - u2 * gx p1 u1 a1 v1 s t:=⟨(u1 * gx p2 u2 a2 v2 s t - u2 * gx p1 u1 a1 v1 s t) / (u1 * v2 - u2 * v1),by grind⟩
  have k1:u1 * a - v1 * b=- gx p1 u1 a1 v1 s t:=by
   have:(u1 * a - v1 * b+gx p1 u1 a1 v1 s t) * (u1 * v2 - u2 * v1)=0:=by grind
   rcases Rat.mul_eq_zero.1 this with e|e
   ·grind
   ·exact absurd e hc
  have k2:u2 * a - v2 * b=- gx p2 u2 a2 v2 s t:=by
   have:(u2 * a - v2 * b+gx p2 u2 a2 v2 s t) * (u1 * v2 - u2 * v1)=0:=by grind
   rcases Rat.mul_eq_zero.1 this with e|e
   ·grind
   ·exact absurd e hc
  obtain ⟨l,⟨l0,l1⟩,hx,hy,hbd⟩:=exit2 s t a b s0 s1 t0 t1 (by
   rintro ⟨⟨h1,h2⟩,h3,h4⟩
   refine hn _ _ h1 h2 h3 h4 ⟨?_,?_⟩
   ·unfold gx at k1 ⊢; grind
   ·unfold gx at k2 ⊢; grind)
  refine ⟨_,_,hx,hy,hbd,?_⟩
  have g1:gx p1 u1 a1 v1 (s+l * a) (t+l * b)=(1 - l) * gx p1 u1 a1 v1 s t:=by unfold gx at k1 ⊢; grind
  have g2:gx p2 u2 a2 v2 (s+l * a) (t+l * b)=(1 - l) * gx p2 u2 a2 v2 s t:=by unfold gx at k2 ⊢; grind
  rw [g1,g2]
  have hF:=sq_nn (gx p1 u1 a1 v1 s t)
  have hF2:=sq_nn (gx p2 u2 a2 v2 s t)
  have hl:(1 - l) * (1 - l)<=1:=by
   have:=mul_mono (y:=1 - l) (by grind) (show 1 - l<=1 by grind)
   grind
  have m1:=mul_mono hF hl
  have m2:=mul_mono hF2 hl
  grind
def cr (a1 a2 b1 b2 c1 c2:Rat):Rat:=(b1 - a1) * (c2 - a2) - (b2 - a2) * (c1 - a1)
def bt (x a b:Rat):Prop:=(a<=x/\x<=b)\/(b<=x/\x<=a)
theorem bt_mid {a b s:Rat} (h0:0<=s) (h1:s<=1):bt (a+s * (b - a)) a b:=by
 by_cases h:a<=b
 ·have:=mul_mono (y:=b - a) (by grind) h1
  have:=mul_nn h0 (show 0<=b - a by grind)
  exact .inl (by constructor<;>grind)
 ·have:=mul_mono (y:=a - b) (by grind) h1
  have:=mul_nn h0 (show 0<=a - b by grind)
  exact .inr (by constructor<;>grind)
theorem bt_out {a s w:Rat} {c d:Rat} (hc:c<=0) (hd:0<=d):bt a (a+c * w) (a+d * w):=by
 by_cases h:0<=w
 ·have:=mul_nn (show 0<=-c by grind) h
  have:=mul_nn hd h
  exact .inl (by constructor<;>grind)
 ·have:=mul_nn (show 0<=-c by grind) (show 0<=-w by grind)
  have:=mul_nn hd (show 0<=-w by grind)
  exact .inr (by constructor<;>grind)
theorem bt_comm {x a b:Rat} (h:bt x a b):bt x b a:=h.elim .inr .inl
theorem meet {p1 p2 q1 q2 c1 c2 d1 d2 s t:Rat} (s0:0<=s) (s1:s<=1) (t0:0<=t) (t1:t<=1) (e1:p1+s * (q1 - p1)=c1+t * (d1 - c1)) (e2:p2+s * (q2 - p2)=c2+t * (d2 - c2)) :
  (cr p1 p2 q1 q2 c1 c2=0/\bt c1 p1 q1/\bt c2 p2 q2)\/(cr p1 p2 q1 q2 d1 d2=0/\bt d1 p1 q1/\bt d2 p2 q2)\/(cr c1 c2 d1 d2 p1 p2=0/\bt p1 c1 d1/\bt p2 c2 d2)\/(cr c1 c2 d1 d2 q1 q2=0/\bt q1 c1 d1/\bt q2 c2 d2) ∨
  (cr p1 p2 q1 q2 c1 c2 * cr p1 p2 q1 q2 d1 d2 < 0/\cr c1 c2 d1 d2 p1 p2 * cr c1 c2 d1 d2 q1 q2 < 0):=by
 have hAB:(1 - t) * cr p1 p2 q1 q2 c1 c2+t * cr p1 p2 q1 q2 d1 d2=0:=by unfold cr; grind
 have hCD:(1 - s) * cr c1 c2 d1 d2 p1 p2+s * cr c1 c2 d1 d2 q1 q2=0:=by unfold cr; grind
 have neg:∀ {A B t:Rat},0<=t->t<=1->(1 - t) * A+t * B=0->A ≠ 0->B ≠ 0->A * B < 0:=by
  intro A B t t0 t1 h hA hB
  have ht:t ≠ 0:=fun e=>hA (by rw [e] at h; grind)
  have ht1:t ≠ 1:=fun e=>hB (by rw [e] at h; grind)
  have h1:0 < t:=by grind
  have h2:0 < 1 - t:=by grind
  have h3:(1 - t) * (A * B)=-(t * (B * B)):=by grind
  have h4:0 < B * B:=by
   have:=sq_nn B
   have:B * B ≠ 0:=fun e=>hB (by rcases Rat.mul_eq_zero.1 e with e|e<;>exact e)
   grind
  have h5:=Rat.mul_pos h1 h4
  have h6:¬ 0<=A * B:=fun h6=>by
   have:=mul_nn (show 0<=1 - t by grind) h6
   grind
  grind
 by_cases hA:cr p1 p2 q1 q2 c1 c2=0
 ·by_cases hB:cr p1 p2 q1 q2 d1 d2=0
  ·by_cases hp:p1=q1/\p2=q2
   ·obtain ⟨rfl,rfl⟩:=hp
    have f1:p1=c1+t * (d1 - c1):=by grind
    have f2:p2=c2+t * (d2 - c2):=by grind
    refine .inr (.inr (.inl ⟨by unfold cr; grind,?_,?_⟩))
    ·rw [f1]; exact bt_mid t0 t1
    ·rw [f2]; exact bt_mid t0 t1
   ·have par:∀ {x1 x2:Rat},cr p1 p2 q1 q2 x1 x2=0->∃ k:Rat,x1=p1+k * (q1 - p1)/\x2=p2+k * (q2 - p2):=by
     intro x1 x2 h
     unfold cr at h
     by_cases h1:q1 - p1=0
     ·have h2:q2 - p2 ≠ 0:=fun e=>hp ⟨by grind,by grind⟩
      obtain ⟨k,hk⟩:∃ k:Rat,k * (q2 - p2)=x2 - p2:=⟨(x2 - p2) / (q2 - p2),by grind⟩
      refine ⟨k,?_,by grind⟩
      have:(x1 - p1) * (q2 - p2)=0:=by grind
      rcases Rat.mul_eq_zero.1 this with e|e
      ·grind
      ·exact absurd e h2
     ·obtain ⟨k,hk⟩:∃ k:Rat,k * (q1 - p1)=x1 - p1:=⟨(x1 - p1) / (q1 - p1),by grind⟩
      refine ⟨k,by grind,?_⟩
      have:(q1 - p1) * (x2 - p2 - k * (q2 - p2))=0:=by grind
      rcases Rat.mul_eq_zero.1 this with e|e
      ·exact absurd e h1
      ·grind
    obtain ⟨k,hk1,hk2⟩:=par hA
    obtain ⟨j,hj1,hj2⟩:=par hB
    have hkj:s=(1 - t) * k+t * j:=by
     have f1:(s - ((1 - t) * k+t * j)) * (q1 - p1)=0:=by grind
     have f2:(s - ((1 - t) * k+t * j)) * (q2 - p2)=0:=by grind
     rcases Rat.mul_eq_zero.1 f1 with e|e
     ·grind
     ·rcases Rat.mul_eq_zero.1 f2 with e'|e'
      ·grind
      ·exact absurd ⟨by grind,by grind⟩ hp
    by_cases k0:0<=k/\k<=1
    ·exact .inl ⟨hA,by rw [hk1]; exact bt_mid k0.1 k0.2,by rw [hk2]; exact bt_mid k0.1 k0.2⟩
    by_cases j0:0<=j/\j<=1
    ·exact .inr (.inl ⟨hB,by rw [hj1]; exact bt_mid j0.1 j0.2,by rw [hj2]; exact bt_mid j0.1 j0.2⟩)
    have hC:cr c1 c2 d1 d2 p1 p2=0:=by rw [hk1,hk2,hj1,hj2]; unfold cr; grind
    refine .inr (.inr (.inl ⟨hC,?_⟩))
    have hs:(k<=0/\0<=j)\/(j<=0/\0<=k):=by
     by_cases a1:0<=k
     ·by_cases a2:0<=j
      ·exfalso
       have:1 < k:=by grind
       have:1 < j:=by grind
       have m1:=mul_nn (show 0<=1 - t by grind) (show 0<=k - 1 by grind)
       have m2:=mul_nn t0 (show 0<=j - 1 by grind)
       by_cases tt:t=0
       ·subst tt; grind
       ·have:=Rat.mul_pos (show 0 < t by grind) (show 0 < j - 1 by grind)
        grind
      ·exact .inr ⟨by grind,a1⟩
     ·by_cases a2:0<=j
      ·exact .inl ⟨by grind,a2⟩
      ·exfalso
       have m1:=mul_nn (show 0<=1 - t by grind) (show 0<=-k by grind)
       have m2:=mul_nn t0 (show 0<=-j by grind)
       by_cases tt:t=0
       ·subst tt; grind
       ·have:=Rat.mul_pos (show 0 < t by grind) (show 0 < -j by grind)
        grind
    rw [hk1,hk2,hj1,hj2]
    rcases hs with ⟨x,y⟩|⟨x,y⟩
    ·exact ⟨bt_out (s:=s) x y,bt_out (s:=s) x y⟩
    ·exact ⟨bt_comm (bt_out (s:=s) x y),bt_comm (bt_out (s:=s) x y)⟩
  ·have ht:t=0:=by
    have:t * cr p1 p2 q1 q2 d1 d2=0:=by rw [hA] at hAB; grind
    rcases Rat.mul_eq_zero.1 this with e|e
    ·exact e
    ·exact absurd e hB
   subst ht
   have f1:c1=p1+s * (q1 - p1):=by grind
   have f2:c2=p2+s * (q2 - p2):=by grind
   exact .inl ⟨hA,by rw [f1]; exact bt_mid s0 s1,by rw [f2]; exact bt_mid s0 s1⟩
 ·by_cases hB:cr p1 p2 q1 q2 d1 d2=0
  ·have ht:t=1:=by
    have:(1 - t) * cr p1 p2 q1 q2 c1 c2=0:=by rw [hB] at hAB; grind
    rcases Rat.mul_eq_zero.1 this with e|e
    ·grind
    ·exact absurd e hA
   subst ht
   have f1:d1=p1+s * (q1 - p1):=by grind
   have f2:d2=p2+s * (q2 - p2):=by grind
   exact .inr (.inl ⟨hB,by rw [f1]; exact bt_mid s0 s1,by rw [f2]; exact bt_mid s0 s1⟩)
  ·by_cases hC:cr c1 c2 d1 d2 p1 p2=0
   ·by_cases hD:cr c1 c2 d1 d2 q1 q2=0
    ·exfalso
     have h1:(q1 - p1) * (d2 - c2) - (q2 - p2) * (d1 - c1)=0:=by unfold cr at hC hD; grind
     refine hA ?_
     unfold cr at hAB ⊢
     grind
    ·have hs:s=0:=by
      have:s * cr c1 c2 d1 d2 q1 q2=0:=by rw [hC] at hCD; grind
      rcases Rat.mul_eq_zero.1 this with e|e
      ·exact e
      ·exact absurd e hD
     subst hs
     have f1:p1=c1+t * (d1 - c1):=by grind
     have f2:p2=c2+t * (d2 - c2):=by grind
     exact .inr (.inr (.inl ⟨hC,by rw [f1]; exact bt_mid t0 t1,by rw [f2]; exact bt_mid t0 t1⟩))
   ·by_cases hD:cr c1 c2 d1 d2 q1 q2=0
    ·have hs:s=1:=by
      have:(1 - s) * cr c1 c2 d1 d2 p1 p2=0:=by rw [hD] at hCD; grind
      rcases Rat.mul_eq_zero.1 this with e|e
      ·grind
      ·exact absurd e hC
     subst hs
     have f1:q1=c1+t * (d1 - c1):=by grind
     have f2:q2=c2+t * (d2 - c2):=by grind
     exact .inr (.inr (.inr (.inl ⟨hD,by rw [f1]; exact bt_mid t0 t1,by rw [f2]; exact bt_mid t0 t1⟩)))
    ·exact .inr (.inr (.inr (.inr ⟨neg t0 t1 hAB hA hB,neg s0 s1 hCD hC hD⟩)))
end Go.Proofs.YtbopoblkoainjaaGreat.CG

namespace Go.Proofs.YtbopoblkoainjaaGreat.CG
theorem near {w1 w2 v1 v2 T t x:Rat} (hs:0 < v1 * v1+v2 * v2) (hT:T * (v1 * v1+v2 * v2)=w1 * v1+w2 * v2) (ht:(T < 0/\t=0)\/(1 < T/\t=1)\/(0<=T/\T<=1/\t=T)) (x0:0<=x) (x1:x<=1) :
  (w1 - t * v1) * (w1 - t * v1)+(w2 - t * v2) * (w2 - t * v2)<=(w1 - x * v1) * (w1 - x * v1)+(w2 - x * v2) * (w2 - x * v2):=by
 generalize hS:v1 * v1+v2 * v2=S at *
 generalize hI:w1 * v1+w2 * v2=I at *
 have e:∀ y:Rat,(w1 - y * v1) * (w1 - y * v1)+(w2 - y * v2) * (w2 - y * v2)=w1 * w1+w2 * w2 - 2 * (y * I)+y * y * S:=by
  intro y; rw [<-hI,<-hS]; grind
 rw [e t,e x,<-hT]
 have s0:0<=S:=by grind
 rcases ht with ⟨h,rfl⟩|⟨h,rfl⟩|⟨h1,h2,rfl⟩
 ·have m1:=mul_nn (mul_nn x0 (show 0<=-T by grind)) s0
  have m2:=mul_nn (mul_nn x0 x0) s0
  grind
 ·have m1:=mul_nn (mul_nn (show 0<=1 - x by grind) (show 0<=T - 1 by grind)) s0
  have m2:=mul_nn (mul_nn (show 0<=1 - x by grind) (show 0<=1 - x by grind)) s0
  grind
 ·have m1:=mul_nn (sq_nn (x - t)) s0
  grind
def ev (M P:Nat->Rat) (j:Nat) (s:Rat):Rat:=(1 - s) * M j+s * P j
theorem ev_nn {M P:Nat->Rat} {j:Nat} {s:Rat} (h0:0<=s) (h1:s<=1) (hm:0<=M j) (hp:0<=P j):0<=ev M P j s:=by
 have a:=mul_nn (show 0<=1 - s by grind) hm
 have b:=mul_nn h0 hp
 unfold ev; grind
theorem ev_mid {M P:Nat->Rat} {j:Nat} {r s:Rat} (h0:0<=r) (h1:r<=s) (hm:0<=M j) (hs:0<=ev M P j s):0<=ev M P j r:=by
 by_cases c:0<=P j - M j
 ·have a:=mul_nn h0 c
  unfold ev; grind
 ·have a:=mul_mono (show 0<=-(P j - M j) by grind) h1
  unfold ev at hs ⊢; grind
theorem first {M P:Nat->Rat}:∀ k,(∀ i,i < k->0<=M i)->(∀ i,i < k->0<=P i) ∨
   ∃ i s,i < k/\(0<=s/\s<=1)/\P i < 0/\ev M P i s=0/\∀ j,j < k->0<=ev M P j s:=by
 intro k
 induction k with
 | zero=>intro _; exact .inl fun i h=>absurd h (Nat.not_lt_zero _)
 | succ k ih =>
  intro hm
  have hmk:=hm k (Nat.lt_succ_self k)
  have ih:=ih fun i h=>hm i (by omega)
  by_cases hpk:0<=P k
  ·rcases ih with h|⟨i,s,hi,hs,h1,h2,h3⟩
   ·exact .inl fun i hi=>by
     by_cases e:i=k
     ·rw [e]; exact hpk
     ·exact h i (by omega)
   ·refine .inr ⟨i,s,by omega,hs,h1,h2,fun j hj=>?_⟩
    by_cases e:j=k
    ·rw [e]; exact ev_nn hs.1 hs.2 hmk hpk
    ·exact h3 j (by omega)
  ·have hpos:0 < M k - P k:=by grind
   obtain ⟨r,hr⟩:=quo (M k) hpos
   have r0:0<=r:=quo_nn hpos (by rw [hr]; exact hmk)
   have r1:r<=1:=quo_le hpos (by rw [hr]; grind)
   have hz:ev M P k r=0:=by unfold ev; grind
   rcases ih with h|⟨i,s,hi,hs,h1,h2,h3⟩
   ·refine .inr ⟨k,r,by omega,⟨r0,r1⟩,by grind,hz,fun j hj=>?_⟩
    by_cases e:j=k
    ·rw [e,hz]; exact Rat.le_refl
    ·exact ev_nn r0 r1 (hm j hj) (h j (by omega))
   ·by_cases c:s<=r
    ·refine .inr ⟨i,s,by omega,hs,h1,h2,fun j hj=>?_⟩
     by_cases e:j=k
     ·rw [e]; exact ev_mid hs.1 c hmk (by rw [hz]; exact Rat.le_refl)
     ·exact h3 j (by omega)
    ·refine .inr ⟨k,r,by omega,⟨r0,r1⟩,by grind,hz,fun j hj=>?_⟩
     by_cases e:j=k
     ·rw [e,hz]; exact Rat.le_refl
     ·exact ev_mid r0 (by grind) (hm j hj) (h3 j (by omega))
theorem onside {a1 a2 b1 b2 c1 c2 z1 z2 x y:Rat} (ha:0 < cr z1 z2 a1 a2 b1 b2) (hb:0 < cr a1 a2 b1 b2 c1 c2) (h2:cr a1 a2 b1 b2 x y=0) (k1:0<=cr z1 z2 a1 a2 x y) (k2:0<=cr b1 b2 c1 c2 x y) :
  ∃ t:Rat,(0<=t/\t<=1)/\x=a1+t * (b1 - a1)/\y=a2+t * (b2 - a2):=by
 have hne:¬ (b1=a1/\b2=a2):=by
  rintro ⟨e1,e2⟩
  subst e1 e2
  unfold cr at hb
  grind
 obtain ⟨t,ht1,ht2⟩:∃ t:Rat,x=a1+t * (b1 - a1)/\y=a2+t * (b2 - a2):=by
  unfold cr at h2
  by_cases c:b1 - a1=0
  ·have c2:b2 - a2 ≠ 0:=fun e=>hne ⟨by grind,by grind⟩
   obtain ⟨k,hk⟩:∃ k:Rat,k * (b2 - a2)=y - a2:=⟨(y - a2) / (b2 - a2),by grind⟩
   refine ⟨k,?_,by grind⟩
   have:(x - a1) * (b2 - a2)=0:=by grind
   rcases Rat.mul_eq_zero.1 this with e|e
   ·grind
   ·exact absurd e c2
  ·obtain ⟨k,hk⟩:∃ k:Rat,k * (b1 - a1)=x - a1:=⟨(x - a1) / (b1 - a1),by grind⟩
   refine ⟨k,by grind,?_⟩
   have:(b1 - a1) * (y - a2 - k * (b2 - a2))=0:=by grind
   rcases Rat.mul_eq_zero.1 this with e|e
   ·exact absurd e c
   ·grind
 have t0:0<=t:=by
  refine quo_nn ha ?_
  have:cr z1 z2 a1 a2 x y=t * cr z1 z2 a1 a2 b1 b2:=by rw [ht1,ht2]; unfold cr; grind
  rw [<-this]; exact k1
 have t1:0<=1 - t:=by
  refine quo_nn hb ?_
  have:cr b1 b2 c1 c2 x y=(1 - t) * cr a1 a2 b1 b2 c1 c2:=by rw [ht1,ht2]; unfold cr; grind
  rw [<-this]; exact k2
 exact ⟨t,⟨t0,by grind⟩,ht1,ht2⟩
theorem cr_ev (a1 a2 b1 b2 m1 m2 p1 p2 s:Rat):cr a1 a2 b1 b2 (m1+s * (p1 - m1)) (m2+s * (p2 - m2))=(1 - s) * cr a1 a2 b1 b2 m1 m2+s * cr a1 a2 b1 b2 p1 p2:=by
 unfold cr; grind
theorem leave {n:Nat} {X Y:Nat->Rat} {nx:Nat->Nat} {m1 m2 p1 p2:Rat} (hnx:∀ i,i < n->nx i < n)
  (hpr:∀ i,i < n->∃ j,j < n/\nx j=i)
  (hcv:∀ i,i < n->0 < cr (X i) (Y i) (X (nx i)) (Y (nx i)) (X (nx (nx i))) (Y (nx (nx i))))
  (hm:∀ i,i < n->0<=cr (X i) (Y i) (X (nx i)) (Y (nx i)) m1 m2)
  (hp:∃ i,i < n/\cr (X i) (Y i) (X (nx i)) (Y (nx i)) p1 p2 < 0) :
  ∃ i,i < n/\∃ s t:Rat,(0<=s/\s<=1)/\(0<=t/\t<=1)/\m1+s * (p1 - m1)=X i+t * (X (nx i) - X i)/\m2+s * (p2 - m2)=Y i+t * (Y (nx i) - Y i):=by
 obtain ⟨i0,hi0,hneg⟩:=hp
 rcases first (M:=fun i=>cr (X i) (Y i) (X (nx i)) (Y (nx i)) m1 m2) (P:=fun i=>cr (X i) (Y i) (X (nx i)) (Y (nx i)) p1 p2) n hm with h|⟨i,s,hi,hs,h1,h2,h3⟩
 ·exact absurd (show 0<=cr (X i0) (Y i0) (X (nx i0)) (Y (nx i0)) p1 p2 from h i0 hi0) (by grind)
 ·have ev_eq:∀ j,ev (fun i=>cr (X i) (Y i) (X (nx i)) (Y (nx i)) m1 m2) (fun i=>cr (X i) (Y i) (X (nx i)) (Y (nx i)) p1 p2) j s=cr (X j) (Y j) (X (nx j)) (Y (nx j)) (m1+s * (p1 - m1)) (m2+s * (p2 - m2)):=fun j=>(cr_ev ..).symm
  obtain ⟨j,hj,hji⟩:=hpr i hi
  have ha:=hcv j hj
  rw [hji] at ha
  have hb:=hcv i hi
  have hk1:=h3 j hj
  rw [ev_eq,hji] at hk1
  have hk2:=h3 (nx i) (hnx i hi)
  rw [ev_eq] at h2 hk2
  obtain ⟨t,ht,e1,e2⟩:=onside ha hb h2 hk1 hk2
  exact ⟨i,hi,s,t,hs,ht,e1,e2⟩
end Go.Proofs.YtbopoblkoainjaaGreat.CG

namespace Go.Proofs.YtbopoblkoainjaaGreat.DW
open Go.RowKit
@[go_sem] theorem bts_VecS:bts Tryz.prog 25=some 24:=by kernel_rfl
theorem RobotAtI_fn (s:DSc) (h:Int) (hs:sceneB s=true) (hh:0<=h/\h<=3):Fn Tryz.prog 37 [⟨tScene,s⟩,⟨.int,h⟩] true [⟨.slice tVec,robS s h⟩]:=by
 have p:=(scene_p hs).rob
 have c1:=IsValidSceneI_fn s
 rw [hs] at c1
 have c2:=isHeading_fn h
 rw [decide_eq_true hh] at c2
 have c3:=TurnPolygonI_fn s.2.2.1 h p.ok (by have:=p.five; omega) hh
 unfold robS
 refine fe Tryz.func37 Tryz.ntmps37 Tryz.results37 fun hwf=>?_
 try simp (maxSteps:=9^9) only[go_sem]
 repeat refine AI ?_
 repeat refine AI ?_
 refine cw c1 ?_
 try simp (maxSteps:=9^9) only[go_sem]
 repeat refine AI ?_
 repeat refine AI ?_
 refine cw c2 ?_
 try simp (maxSteps:=9^9) only[go_sem]
 repeat refine AI ?_
 repeat refine AI ?_
 refine cw c3 ?_
 try simp (maxSteps:=9^9) only[go_sem]
 all_goals repeat refine AI ?_
 all_goals first|kernel_rfl|omega|rfl
theorem RobotAtI_nil (s:DSc) (h:Int) (hn:(sceneB s && hdB h)=false):Fn Tryz.prog 37 [⟨tScene,s⟩,⟨.int,h⟩] false [⟨.cst .nil,()⟩]:=by
 have c1:=IsValidSceneI_fn s
 have c2:=isHeading_fn h
 unfold hdB at hn
 cases hs:sceneB s<;>rw [hs] at c1 hn
 ·refine fe Tryz.func37 Tryz.ntmps37 Tryz.results37 fun hwf=>?_
  try simp (maxSteps:=9^9) only[go_sem]
  repeat refine AI ?_
  repeat refine AI ?_
  refine cw c1 ?_
  try simp (maxSteps:=9^9) only[go_sem]
  all_goals repeat refine AI ?_
  all_goals first|kernel_rfl|omega|rfl
 ·rw [Bool.true_and] at hn
  rw [hn] at c2
  refine fe Tryz.func37 Tryz.ntmps37 Tryz.results37 fun hwf=>?_
  try simp (maxSteps:=9^9) only[go_sem]
  repeat refine AI ?_
  repeat refine AI ?_
  refine cw c1 ?_
  try simp (maxSteps:=9^9) only[go_sem]
  repeat refine AI ?_
  repeat refine AI ?_
  refine cw c2 ?_
  try simp (maxSteps:=9^9) only[go_sem]
  all_goals repeat refine AI ?_
  all_goals first|kernel_rfl|omega|rfl
theorem widthOfI_fn (l:List DV) (h0:0 < l.length):Fn Tryz.prog 93 [⟨.slice tVec,l⟩] false [⟨tVec,(widD l).1⟩,⟨tVec,(widD l).2⟩]:=by
 refine fe Tryz.func93 Tryz.ntmps93 Tryz.results93 fun hwf=>?_
 have hl:l.length<=9223372036854775807:=(hwf ⟨.slice tVec,l⟩ (by simp)).1
 try simp (maxSteps:=9^9) only[go_sem]
 repeat refine AI ?_
 refine LoopG.intro _ _ _ (fun i:Nat=>⟨[(2,.ptr 0 0),(3,.ptr 1 0),(4,.ptr 2 0),(5,.ptr 3 0),(14,.sl tVec l),(15,.sc (.int .i64 l.length)),(16,.sc (.int .i64 i))],[(0,.box [.sc (.int .i64 0),.sc (.int .i64 0)]),(1,.box [.sc (.int .i64 0),.sc (.int .i64 0)]),(2,.box [.sc (.int .i64 (widI l i).1.1),.sc (.int .i64 (widI l i).1.2)]),(3,.box [.sc (.int .i64 (widI l i).2.1),.sc (.int .i64 (widI l i).2.2)])]⟩) (fun i=>i<=l.length) (fun i=>l.length - i) 0 ?_ (Nat.zero_le _) ?_
 ·exact WK
 ·rintro i hi
  try simp (maxSteps:=9^9) only[go_sem]
  refine CondW_dec (fun hA=>?_) (fun hA=>?_)
  ·try simp (maxSteps:=9^9) only[go_sem]
   repeat refine AI ?_
   refine LoopK.mk (i+1) ?_ (by omega) (by omega)
   exact WK
  ·rw [show widD l=widI l i by unfold widD; rw [show i=l.length by omega]]
   try simp (maxSteps:=9^9) only[go_sem]
   all_goals repeat refine AI ?_
   all_goals first|kernel_rfl|omega|rfl
theorem robS_len {s:DSc} (hs:sceneB s=true) (h:Int):3<=(robS s h).length/\(robS s h).length<=5:=by
 have h1:=(robS_sm hs h).poly.1.1
 have h2:=(robS_sm hs h).five
 omega
noncomputable def bxN (s:DSc) (h:Int):DV × DV:=if opnB s h then boxD s h else ((0,0),(0,0))
theorem bxN_t {s:DSc} {h:Int} (e:opnB s h=true):bxN s h=boxD s h:=if_pos e
theorem bxN_f {s:DSc} {h:Int} (e:opnB s h=false):bxN s h=((0,0),(0,0)):=if_neg (by rw [e]; decide)
theorem opnB_f1 {s:DSc} {h:Int} (e:(sceneB s && hdB h)=false):opnB s h=false:=by
 unfold opnB
 rw [<-Bool.and_assoc,e]; rfl
theorem opnB_t1 {s:DSc} {h:Int} (e:(sceneB s && hdB h)=true):opnB s h=limB s h:=by
 unfold opnB
 rw [<-Bool.and_assoc,e]; rfl
set_option maxHeartbeats 1000000 in
theorem LimitsOfI_fn (s:DSc) (h:Int):Fn Tryz.prog 52 [⟨tScene,s⟩,⟨.int,h⟩] false [⟨tBox,bxN s h⟩,⟨.bool,opnB s h⟩]:=by
 cases e:sceneB s && hdB h
 ·rw [bxN_f (opnB_f1 e),opnB_f1 e]
  have c1:=RobotAtI_nil s h e
  refine fe Tryz.func52 Tryz.ntmps52 Tryz.results52 fun hwf=>?_
  try simp (maxSteps:=9^9) only[go_sem]
  repeat refine AI ?_
  repeat refine AI ?_
  refine cw c1 ?_
  try simp (maxSteps:=9^9) only[go_sem]
  all_goals repeat refine AI ?_
  all_goals first|kernel_rfl|omega|rfl
 ·have es:=(Bool.and_eq_true_iff.1 e).1
  have eh:0<=h/\h<=3:=of_decide_eq_true (Bool.and_eq_true_iff.1 e).2
  have hb:=wid_b es h
  have hl1:=inB_b (scene_p es).low
  have hl2:=inB_b (scene_p es).high
  have hr:=robS_len es h
  have c1:=RobotAtI_fn s h es eh
  have c2:=widthOfI_fn (robS s h) (by omega)
  have hlim:limB s h=(decide ((boxD s h).1.1 < (boxD s h).2.1) && decide ((boxD s h).1.2 < (boxD s h).2.2)):=rfl
  by_cases h1:(boxD s h).1.1 < (boxD s h).2.1
  rotate_left
  ·have el:opnB s h=false:=by rw [opnB_t1 e,hlim,decide_eq_false h1]; rfl
   have d1:=decide_eq_true (p:=s.1.1 - (widD (robS s h)).1.1 ≥ s.2.1.1 - (widD (robS s h)).2.1) (show (boxD s h).2.1<=(boxD s h).1.1 from by omega)
   rw [bxN_f el,el]
   refine fe Tryz.func52 Tryz.ntmps52 Tryz.results52 fun hwf=>?_
   try simp (maxSteps:=9^9) only[go_sem]
   repeat refine AI ?_
   repeat refine AI ?_
   refine cw c1 ?_
   try simp (maxSteps:=9^9) only[go_sem]
   repeat refine AI ?_
   refine NilW.non (by intro e0; rw [e0] at hr; simp at hr) ?_
   try simp (maxSteps:=9^9) only[go_sem]
   repeat refine AI ?_
   repeat refine AI ?_
   refine cw c2 ?_
   try simp (maxSteps:=9^9) only[go_sem]
   repeat refine AI ?_
   try simp (maxSteps:=9^9) only[go_sem,d1]
   repeat refine AI ?_
   try simp (maxSteps:=9^9) only[go_sem,d1]
   all_goals repeat refine AI ?_
   all_goals first|kernel_rfl|omega|rfl
  have d1:=decide_eq_false (p:=s.1.1 - (widD (robS s h)).1.1 ≥ s.2.1.1 - (widD (robS s h)).2.1) (show ¬ ((boxD s h).2.1<=(boxD s h).1.1) from by omega)
  by_cases h2:(boxD s h).1.2 < (boxD s h).2.2
  rotate_left
  ·have el:opnB s h=false:=by rw [opnB_t1 e,hlim,decide_eq_true h1,decide_eq_false h2]; rfl
   have d2:=decide_eq_true (p:=s.1.2 - (widD (robS s h)).1.2 ≥ s.2.1.2 - (widD (robS s h)).2.2) (show (boxD s h).2.2<=(boxD s h).1.2 from by omega)
   rw [bxN_f el,el]
   refine fe Tryz.func52 Tryz.ntmps52 Tryz.results52 fun hwf=>?_
   try simp (maxSteps:=9^9) only[go_sem]
   repeat refine AI ?_
   repeat refine AI ?_
   refine cw c1 ?_
   try simp (maxSteps:=9^9) only[go_sem]
   repeat refine AI ?_
   refine NilW.non (by intro e0; rw [e0] at hr; simp at hr) ?_
   try simp (maxSteps:=9^9) only[go_sem]
   repeat refine AI ?_
   repeat refine AI ?_
   refine cw c2 ?_
   try simp (maxSteps:=9^9) only[go_sem]
   repeat refine AI ?_
   try simp (maxSteps:=9^9) only[go_sem,d1,d2]
   repeat refine AI ?_
   try simp (maxSteps:=9^9) only[go_sem,d1,d2]
   all_goals repeat refine AI ?_
   all_goals first|kernel_rfl|omega|rfl
  have d2:=decide_eq_false (p:=s.1.2 - (widD (robS s h)).1.2 ≥ s.2.1.2 - (widD (robS s h)).2.2) (show ¬ ((boxD s h).2.2<=(boxD s h).1.2) from by omega)
  have el:opnB s h=true:=by rw [opnB_t1 e,hlim,decide_eq_true h1,decide_eq_true h2]; rfl
  rw [bxN_t el,el]
  unfold boxD
  refine fe Tryz.func52 Tryz.ntmps52 Tryz.results52 fun hwf=>?_
  try simp (maxSteps:=9^9) only[go_sem]
  repeat refine AI ?_
  repeat refine AI ?_
  refine cw c1 ?_
  try simp (maxSteps:=9^9) only[go_sem]
  repeat refine AI ?_
  refine NilW.non (by intro e0; rw [e0] at hr; simp at hr) ?_
  try simp (maxSteps:=9^9) only[go_sem]
  repeat refine AI ?_
  repeat refine AI ?_
  refine cw c2 ?_
  try simp (maxSteps:=9^9) only[go_sem]
  repeat refine AI ?_
  try simp (maxSteps:=9^9) only[go_sem,d1,d2]
  repeat refine AI ?_
  try simp (maxSteps:=9^9) only[go_sem,d1,d2]
  all_goals repeat refine AI ?_
  all_goals first|kernel_rfl|omega|rfl
noncomputable def arN (s:DSc) (h:Int):List (List DV):=if sceneB s && hdB h then arsD s h else []
theorem arN_t {s:DSc} {h:Int} (e:(sceneB s && hdB h)=true):arN s h=arsD s h:=if_pos e
theorem arN_f {s:DSc} {h:Int} (e:(sceneB s && hdB h)=false):arN s h=[]:=if_neg (by rw [e]; decide)
noncomputable def arI (s:DSc) (h:Int) (i:Nat):List (List DV):=(s.2.2.2.1.take i).map (obsD (robS s h))
theorem arI_len {s:DSc} {h:Int} {i:Nat} (hi:i<=s.2.2.2.1.length):(arI s h i).length=i:=by unfold arI; rw [List.length_map,List.length_take]; omega
theorem arI_step {s:DSc} {h:Int} {i:Nat} (hi:i < s.2.2.2.1.length):arI s h (i+1)=arI s h i++[obsD (robS s h) (nth (t:=.slice tVec) s.2.2.2.1 i)]:=by
 unfold arI
 rw [List.take_succ_eq_append_getElem hi,List.map_append,nth_lt (t:=.slice tVec) hi]; rfl
theorem arI_all (s:DSc) (h:Int):arI s h s.2.2.2.1.length=arsD s h:=by unfold arI arsD; rw [List.take_length]
set_option maxHeartbeats 1000000 in
theorem BlockedAreasI_fn (s:DSc) (h:Int):Fn Tryz.prog 38 [⟨tScene,s⟩,⟨.int,h⟩] true [⟨tVecSS,arN s h⟩]:=by
 cases e:sceneB s && hdB h
 ·rw [arN_f e]
  have c1:=RobotAtI_nil s h e
  refine fe Tryz.func38 Tryz.ntmps38 Tryz.results38 fun hwf=>?_
  try simp (maxSteps:=9^9) only[go_sem]
  repeat refine AI ?_
  repeat refine AI ?_
  refine cw c1 ?_
  try simp (maxSteps:=9^9) only[go_sem]
  all_goals repeat refine AI ?_
  all_goals first|kernel_rfl|omega|rfl
 ·have es:=(Bool.and_eq_true_iff.1 e).1
  have eh:0<=h/\h<=3:=of_decide_eq_true (Bool.and_eq_true_iff.1 e).2
  have hr:=robS_len es h
  have hno:=(scene_p es).nobs
  have c1:=(RobotAtI_fn s h es eh).sh
  rw [arN_t e]
  refine fe Tryz.func38 Tryz.ntmps38 Tryz.results38 fun hwf=>?_
  try simp (maxSteps:=9^9) only[go_sem]
  repeat refine AI ?_
  repeat refine AI ?_
  refine cw c1 ?_
  try simp (maxSteps:=9^9) only[go_sem]
  repeat refine AI ?_
  refine NilW.non (by intro e0; rw [e0] at hr; simp at hr) ?_
  try simp (maxSteps:=9^9) only[go_sem]
  repeat refine AI ?_
  refine LoopG.intro _ _ _ (fun i:Nat=>⟨[(5,.sl tVec (robS s h)),(6,.row 1 0),(16,.sl (.slice tVec) s.2.2.2.1),(17,.sc (.int .i64 s.2.2.2.1.length)),(18,.sc (.int .i64 i))],[(1,.row 25 (.slice tVec) 0 true (arI s h i))]⟩) (fun i=>i<=s.2.2.2.1.length) (fun i=>s.2.2.2.1.length - i) 0 ?_ (Nat.zero_le _) ?_
  ·exact WK
  ·rintro i hi
   try simp (maxSteps:=9^9) only[go_sem]
   refine CondW_dec (fun hA=>?_) (fun hA=>?_)
   ·have hlt:i < s.2.2.2.1.length:=by omega
    have hal:=arI_len (s:=s) (h:=h) hi
    have c2:=ObstacleForI_fn (robS s h) (nth (t:=.slice tVec) s.2.2.2.1 i) (robS_sm es h) ((scene_p es).obs _ (nth_memT (t:=.slice tVec) hlt)) (by decide)
    try simp (maxSteps:=9^9) only[go_sem]
    repeat refine AI ?_
    repeat refine AI ?_
    refine cw c2 ?_
    try simp (maxSteps:=9^9) only[go_sem]
    try simp (maxSteps:=9^9) only[go_sem,hal]
    repeat refine AI ?_
    refine LoopK.mk (i+1) ?_ (by omega) (by omega)
    rw [arI_step hlt]
    exact WK
   ·rw [show arsD s h=arI s h i by rw [show i=s.2.2.2.1.length by omega,arI_all]]
    try simp (maxSteps:=9^9) only[go_sem]
    all_goals repeat refine AI ?_
    all_goals first|kernel_rfl|omega|rfl
theorem rdO_ratN {n:Int} (h1:-1000<=n) (h2:n<=1000):rdO (ratI n)=some ((n:Int):Rat):=by
 rw [show ratI n=oD (some ((n:Int):Rat)) from ratI_eq n,rdO_oD (ok_small (by omega))]
theorem inB3 {n:Int} (h:-220<=n/\n<=220):okO (some ((n:Int):Rat)):=ok_small (by omega)
set_option maxHeartbeats 1000000 in
theorem inBoxI_fn (b:DV × DV) (p:DP) (hp:okPt p=true) (hb:((-220<=b.1.1/\b.1.1<=220)/\(-220<=b.1.2/\b.1.2<=220))/\((-220<=b.2.1/\b.2.1<=220)/\(-220<=b.2.2/\b.2.2<=220))):Fn Tryz.prog 96 [⟨tBox,b⟩,⟨tPoint,p⟩] false [⟨.bool,inBx b p⟩]:=by
 obtain ⟨p1,p2⟩:=Bool.and_eq_true_iff.1 (show (okR p.1 && okR p.2)=true from hp)
 have a0:=ratInt_fn b.1.1
 rw [show ratI b.1.1=oD (some ((b.1.1:Int):Rat)) from ratI_eq b.1.1] at a0
 have c0:=ratCmp_fn (rdO p.1) (some ((b.1.1:Int):Rat)) (okO_rdO _) (inB3 (by omega))
 rw [okR_oD p1] at c0
 have a1:=ratInt_fn b.2.1
 rw [show ratI b.2.1=oD (some ((b.2.1:Int):Rat)) from ratI_eq b.2.1] at a1
 have c1:=ratCmp_fn (rdO p.1) (some ((b.2.1:Int):Rat)) (okO_rdO _) (inB3 (by omega))
 rw [okR_oD p1] at c1
 have a2:=ratInt_fn b.1.2
 rw [show ratI b.1.2=oD (some ((b.1.2:Int):Rat)) from ratI_eq b.1.2] at a2
 have c2:=ratCmp_fn (rdO p.2) (some ((b.1.2:Int):Rat)) (okO_rdO _) (inB3 (by omega))
 rw [okR_oD p2] at c2
 have a3:=ratInt_fn b.2.2
 rw [show ratI b.2.2=oD (some ((b.2.2:Int):Rat)) from ratI_eq b.2.2] at a3
 have c3:=ratCmp_fn (rdO p.2) (some ((b.2.2:Int):Rat)) (okO_rdO _) (inB3 (by omega))
 rw [okR_oD p2] at c3
 unfold inBx
 cases h0:decide (cmpO (rdO p.1) (some ((b.1.1:Int):Rat)) > 0)
 ·skip
  refine fe Tryz.func96 Tryz.ntmps96 Tryz.results96 fun hwf=>?_
  try simp (maxSteps:=9^9) only[go_sem]
  repeat refine AI ?_
  repeat refine AI ?_
  refine cw a0 ?_
  try simp (maxSteps:=9^9) only[go_sem]
  repeat refine AI ?_
  repeat refine AI ?_
  refine cw c0 ?_
  try simp (maxSteps:=9^9) only[go_sem]
  try simp (maxSteps:=9^9) only[go_sem,h0]
  repeat refine AI ?_
  all_goals repeat refine AI ?_
  all_goals first|kernel_rfl|omega|rfl
 cases h1:decide (cmpO (rdO p.1) (some ((b.2.1:Int):Rat)) < 0)
 ·skip
  refine fe Tryz.func96 Tryz.ntmps96 Tryz.results96 fun hwf=>?_
  try simp (maxSteps:=9^9) only[go_sem]
  repeat refine AI ?_
  repeat refine AI ?_
  refine cw a0 ?_
  try simp (maxSteps:=9^9) only[go_sem]
  repeat refine AI ?_
  repeat refine AI ?_
  refine cw c0 ?_
  try simp (maxSteps:=9^9) only[go_sem]
  try simp (maxSteps:=9^9) only[go_sem,h0]
  repeat refine AI ?_
  repeat refine AI ?_
  refine cw a1 ?_
  try simp (maxSteps:=9^9) only[go_sem]
  repeat refine AI ?_
  repeat refine AI ?_
  refine cw c1 ?_
  try simp (maxSteps:=9^9) only[go_sem]
  try simp (maxSteps:=9^9) only[go_sem,h1]
  repeat refine AI ?_
  all_goals repeat refine AI ?_
  all_goals first|kernel_rfl|omega|rfl
 cases h2:decide (cmpO (rdO p.2) (some ((b.1.2:Int):Rat)) > 0)
 ·skip
  refine fe Tryz.func96 Tryz.ntmps96 Tryz.results96 fun hwf=>?_
  try simp (maxSteps:=9^9) only[go_sem]
  repeat refine AI ?_
  repeat refine AI ?_
  refine cw a0 ?_
  try simp (maxSteps:=9^9) only[go_sem]
  repeat refine AI ?_
  repeat refine AI ?_
  refine cw c0 ?_
  try simp (maxSteps:=9^9) only[go_sem]
  try simp (maxSteps:=9^9) only[go_sem,h0]
  repeat refine AI ?_
  repeat refine AI ?_
  refine cw a1 ?_
  try simp (maxSteps:=9^9) only[go_sem]
  repeat refine AI ?_
  repeat refine AI ?_
  refine cw c1 ?_
  try simp (maxSteps:=9^9) only[go_sem]
  try simp (maxSteps:=9^9) only[go_sem,h1]
  repeat refine AI ?_
  repeat refine AI ?_
  refine cw a2 ?_
  try simp (maxSteps:=9^9) only[go_sem]
  repeat refine AI ?_
  repeat refine AI ?_
  refine cw c2 ?_
  try simp (maxSteps:=9^9) only[go_sem]
  try simp (maxSteps:=9^9) only[go_sem,h2]
  repeat refine AI ?_
  all_goals repeat refine AI ?_
  all_goals first|kernel_rfl|omega|rfl
 cases h3:decide (cmpO (rdO p.2) (some ((b.2.2:Int):Rat)) < 0)
 ·skip
  refine fe Tryz.func96 Tryz.ntmps96 Tryz.results96 fun hwf=>?_
  try simp (maxSteps:=9^9) only[go_sem]
  repeat refine AI ?_
  repeat refine AI ?_
  refine cw a0 ?_
  try simp (maxSteps:=9^9) only[go_sem]
  repeat refine AI ?_
  repeat refine AI ?_
  refine cw c0 ?_
  try simp (maxSteps:=9^9) only[go_sem]
  try simp (maxSteps:=9^9) only[go_sem,h0]
  repeat refine AI ?_
  repeat refine AI ?_
  refine cw a1 ?_
  try simp (maxSteps:=9^9) only[go_sem]
  repeat refine AI ?_
  repeat refine AI ?_
  refine cw c1 ?_
  try simp (maxSteps:=9^9) only[go_sem]
  try simp (maxSteps:=9^9) only[go_sem,h1]
  repeat refine AI ?_
  repeat refine AI ?_
  refine cw a2 ?_
  try simp (maxSteps:=9^9) only[go_sem]
  repeat refine AI ?_
  repeat refine AI ?_
  refine cw c2 ?_
  try simp (maxSteps:=9^9) only[go_sem]
  try simp (maxSteps:=9^9) only[go_sem,h2]
  repeat refine AI ?_
  repeat refine AI ?_
  refine cw a3 ?_
  try simp (maxSteps:=9^9) only[go_sem]
  repeat refine AI ?_
  repeat refine AI ?_
  refine cw c3 ?_
  try simp (maxSteps:=9^9) only[go_sem]
  try simp (maxSteps:=9^9) only[go_sem,h3]
  repeat refine AI ?_
  all_goals repeat refine AI ?_
  all_goals first|kernel_rfl|omega|rfl
 refine fe Tryz.func96 Tryz.ntmps96 Tryz.results96 fun hwf=>?_
 try simp (maxSteps:=9^9) only[go_sem]
 repeat refine AI ?_
 repeat refine AI ?_
 refine cw a0 ?_
 try simp (maxSteps:=9^9) only[go_sem]
 repeat refine AI ?_
 repeat refine AI ?_
 refine cw c0 ?_
 try simp (maxSteps:=9^9) only[go_sem]
 try simp (maxSteps:=9^9) only[go_sem,h0]
 repeat refine AI ?_
 repeat refine AI ?_
 refine cw a1 ?_
 try simp (maxSteps:=9^9) only[go_sem]
 repeat refine AI ?_
 repeat refine AI ?_
 refine cw c1 ?_
 try simp (maxSteps:=9^9) only[go_sem]
 try simp (maxSteps:=9^9) only[go_sem,h1]
 repeat refine AI ?_
 repeat refine AI ?_
 refine cw a2 ?_
 try simp (maxSteps:=9^9) only[go_sem]
 repeat refine AI ?_
 repeat refine AI ?_
 refine cw c2 ?_
 try simp (maxSteps:=9^9) only[go_sem]
 try simp (maxSteps:=9^9) only[go_sem,h2]
 repeat refine AI ?_
 repeat refine AI ?_
 refine cw a3 ?_
 try simp (maxSteps:=9^9) only[go_sem]
 repeat refine AI ?_
 repeat refine AI ?_
 refine cw c3 ?_
 try simp (maxSteps:=9^9) only[go_sem]
 try simp (maxSteps:=9^9) only[go_sem,h3]
 repeat refine AI ?_
 all_goals repeat refine AI ?_
 all_goals first|kernel_rfl|omega|rfl
theorem indexFunc_vsC_fn (F:FuncId) (A:Ty) (x:A.den) (p:(List DV)->Bool) (l:List (List DV)) (hF:∀ y ∈ l,Fn Tryz.prog F (⟨(.slice tVec),y⟩ :: capD A x) false [⟨.bool,p y⟩]):Fn Tryz.prog 98 [⟨.slice (.slice tVec),l⟩,⟨.ext (.clo F) A,some x⟩] false [⟨.int,ixf (t:=(.slice tVec)) p l⟩]:=by
 refine fe Tryz.func98 Tryz.ntmps98 Tryz.results98 fun hwf=>?_
 have hl:l.length<=9223372036854775807:=(hwf ⟨.slice (.slice tVec),l⟩ (by simp)).1
 try simp (maxSteps:=9^9) only[go_sem]
 refine LoopG.intro _ _ _ (fun i:Nat=>⟨[(0,.sl (.slice tVec) l),(1,.ex (.clo F) A (some x)),(7,.sc (.int .i64 l.length)),(8,.sc (.int .i64 i))],[]⟩) (fun i=>∀ j < i,j < l.length->p (nth (t:=(.slice tVec)) l j)=false) (fun i=>l.length - i) 0 ?_ (fun j h=>by simp at h) ?_
 ·exact WK
 ·rintro i h2
  try simp (maxSteps:=9^9) only[go_sem]
  refine CondW_dec (fun h3=>?_) (fun h3=>?_)
  ·have c1:=hF (nth (t:=(.slice tVec)) l i) (nth_memT (t:=(.slice tVec)) (by omega))
   try simp (maxSteps:=9^9) only[go_sem]
   repeat refine AI ?_
   repeat refine AI ?_
   refine CallD.mk (c1) ?_
   try simp (maxSteps:=9^9) only[go_sem]
   refine CondW_b (fun h4=>?_) (fun h4=>?_)
   ·try simp (maxSteps:=9^9) only[go_sem]
    exact (ixf_at (by omega) h4 (fun j hj=>h2 j hj (by omega))).symm
   ·try simp (maxSteps:=9^9) only[go_sem]
    repeat refine AI ?_
    refine LoopK.mk (i+1) ?_ (fun j hj hl=>?_) (by omega)
    ·exact WK
    ·by_cases hj2:j < i
     ·exact h2 j hj2 hl
     ·rw [show j=i by omega]; exact h4
  ·try simp (maxSteps:=9^9) only[go_sem]
   exact (ixf_none fun j hj=>h2 j (by omega) hj).symm
theorem containsFunc_vsC_fn (F:FuncId) (A:Ty) (x:A.den) (p:(List DV)->Bool) (l:List (List DV)) (hF:∀ y ∈ l,Fn Tryz.prog F (⟨(.slice tVec),y⟩ :: capD A x) false [⟨.bool,p y⟩]):Fn Tryz.prog 58 [⟨.slice (.slice tVec),l⟩,⟨.ext (.clo F) A,some x⟩] false [⟨.bool,l.any p⟩]:=by
 have c1:=indexFunc_vsC_fn F A x p l hF
 refine fe Tryz.func58 Tryz.ntmps58 Tryz.results58 fun hwf=>?_
 try simp (maxSteps:=9^9) only[go_sem]
 repeat refine AI ?_
 refine cw c1 ?_
 try simp (maxSteps:=9^9) only[go_sem]
 exact ixf_any
theorem cp_dec {l:List DV} {p:DP} (hp:okPt p=true):cpD l p=cntI l p l.length:=by unfold cpD; rw [if_pos hp]
theorem isFreeC_fn (l:List DV) (p:DP) (hl:polyP l) (hp:okPt p=true):Fn Tryz.prog 97 [⟨.slice tVec,l⟩,⟨.ext .ref tPoint,some p⟩] false [⟨.bool,decide (cpD l p ≥ 0)⟩]:=by
 have hn:=hl.1.2
 have c1:=contains_fn l p hl.2.1 (by omega) hp
 rw [<-cp_dec hp] at c1
 refine fe Tryz.func97 Tryz.ntmps97 Tryz.results97 fun hwf=>?_
 try simp (maxSteps:=9^9) only[go_sem]
 repeat refine AI ?_
 repeat refine AI ?_
 refine cw c1 ?_
 try simp (maxSteps:=9^9) only[go_sem]
 all_goals repeat refine AI ?_
 all_goals first|kernel_rfl|omega|rfl
theorem isFreeMoveC_fn (l:List DV) (p q:DP) (hl:polyP l) (hp:okPt p=true) (hq:okPt q=true):Fn Tryz.prog 59 [⟨.slice tVec,l⟩,⟨.ext .ref tPoint,some p⟩,⟨.ext .ref tPoint,some q⟩] false [⟨.bool,sgmB l p q⟩]:=by
 have c1:=segmentMeets_fn l p q hl hp hq
 rw [show segB l p q=sgmB l p q by unfold sgmB; rw [hp,hq]; rfl] at c1
 refine fe Tryz.func59 Tryz.ntmps59 Tryz.results59 fun hwf=>?_
 try simp (maxSteps:=9^9) only[go_sem]
 repeat refine AI ?_
 repeat refine AI ?_
 refine cw c1 ?_
 try simp (maxSteps:=9^9) only[go_sem]
 all_goals repeat refine AI ?_
 all_goals first|kernel_rfl|omega|rfl
theorem spc_f {s:DSc} {h:Int} (e:opnB s h=false):spcD s h=(false,(((0:Int),(0:Int)),((0:Int),(0:Int))),(spcD s h).2.2):=by
 unfold spcD
 rw [e]; rfl
theorem opn_1 {s:DSc} {h:Int} (e:opnB s h=true):(sceneB s && hdB h)=true:=by
 unfold opnB at e
 rw [<-Bool.and_assoc,Bool.and_eq_true] at e
 exact e.1
theorem spc_t {s:DSc} {h:Int} (e:opnB s h=true):spcD s h=(true,boxD s h,arsD s h):=by
 unfold spcD
 rw [e,opn_1 e]; rfl
theorem opn_s {s:DSc} {h:Int} (e:opnB s h=true):sceneB s=true:=(Bool.and_eq_true_iff.1 (opn_1 e)).1
theorem freB_f {s:DSc} {h:Int} {p:DP} (e:opnB s h=false):freB s h p=false:=by unfold freB; rw [e,Bool.false_and,Bool.and_false]
theorem freB_t {s:DSc} {h:Int} {p:DP} (e:opnB s h=true) (hp:okPt p=true):freB s h p=(inBx (boxD s h) p && !((arsD s h).any fun l=>decide (cpD l p ≥ 0))):=by unfold freB; rw [e,hp,Bool.true_and,Bool.true_and]
set_option maxHeartbeats 1000000 in
theorem isFreeI_fn (s:DSc) (h:Int) (p:DP) (hp:okPt p=true):Fn Tryz.prog 57 [⟨tSpace,spcD s h⟩,⟨tPoint,p⟩] false [⟨.bool,freB s h p⟩]:=by
 cases e:opnB s h
 ·rw [freB_f e,spc_f e]
  refine fe Tryz.func57 Tryz.ntmps57 Tryz.results57 fun hwf=>?_
  try simp (maxSteps:=9^9) only[go_sem]
  repeat refine AI ?_
  all_goals repeat refine AI ?_
  all_goals first|kernel_rfl|omega|rfl
 ·have es:=opn_s e
  have c1:=inBoxI_fn (boxD s h) p hp (box_b es h)
  have c2:=containsFunc_vsC_fn 97 (.ext .ref tPoint) (some p) (fun l=>decide (cpD l p ≥ 0)) (arsD s h) (fun y hy=>isFreeC_fn y p (ars_poly es h y hy) hp)
  rw [freB_t e hp,spc_t e]
  cases h1:inBx (boxD s h) p<;>rw [h1] at c1
  ·refine fe Tryz.func57 Tryz.ntmps57 Tryz.results57 fun hwf=>?_
   try simp (maxSteps:=9^9) only[go_sem]
   repeat refine AI ?_
   repeat refine AI ?_
   refine cw c1 ?_
   try simp (maxSteps:=9^9) only[go_sem]
   all_goals repeat refine AI ?_
   all_goals first|kernel_rfl|omega|rfl
  ·refine fe Tryz.func57 Tryz.ntmps57 Tryz.results57 fun hwf=>?_
   try simp (maxSteps:=9^9) only[go_sem]
   repeat refine AI ?_
   repeat refine AI ?_
   refine cw c1 ?_
   try simp (maxSteps:=9^9) only[go_sem]
   repeat refine AI ?_
   repeat refine AI ?_
   refine CallK.mk (c2) ?_
   try simp (maxSteps:=9^9) only[go_sem]
   all_goals repeat refine AI ?_
   all_goals first|kernel_rfl|omega|rfl
theorem fre_opn {s:DSc} {h:Int} {p:DP} (e:freB s h p=true):opnB s h=true/\okPt p=true:=by
 unfold freB at e
 rw [Bool.and_eq_true,Bool.and_eq_true] at e
 exact ⟨e.2.1,e.1⟩
set_option maxHeartbeats 1000000 in
theorem isFreeMoveI_fn (s:DSc) (h:Int) (p q:DP) (hp:okPt p=true) (hq:okPt q=true):Fn Tryz.prog 27 [⟨tSpace,spcD s h⟩,⟨tPoint,p⟩,⟨tPoint,q⟩] false [⟨.bool,freM s h p q⟩]:=by
 have c1:=isFreeI_fn s h p hp
 have c2:=isFreeI_fn s h q hq
 unfold freM
 cases h1:freB s h p<;>rw [h1] at c1
 ·rw [Bool.false_and]
  generalize spcD s h=X at c1 c2 ⊢
  obtain ⟨o,b,l⟩:=X
  refine fe Tryz.func27 Tryz.ntmps27 Tryz.results27 fun hwf=>?_
  try simp (maxSteps:=9^9) only[go_sem]
  repeat refine AI ?_
  repeat refine AI ?_
  refine cw c1 ?_
  try simp (maxSteps:=9^9) only[go_sem]
  all_goals repeat refine AI ?_
  all_goals first|kernel_rfl|omega|rfl
 ·have e:=(fre_opn h1).1
  have es:=opn_s e
  rw [spc_t e] at c1 c2 ⊢
  have c3:=containsFunc_vsC_fn 59 (.prod (.ext .ref tPoint) (.ext .ref tPoint)) (some p,some q) (fun l=>sgmB l p q) (arsD s h) (fun y hy=>isFreeMoveC_fn y p q (ars_poly es h y hy) hp hq)
  cases h2:freB s h q<;>rw [h2] at c2
  ·refine fe Tryz.func27 Tryz.ntmps27 Tryz.results27 fun hwf=>?_
   try simp (maxSteps:=9^9) only[go_sem]
   repeat refine AI ?_
   repeat refine AI ?_
   refine cw c1 ?_
   try simp (maxSteps:=9^9) only[go_sem]
   repeat refine AI ?_
   repeat refine AI ?_
   refine cw c2 ?_
   try simp (maxSteps:=9^9) only[go_sem]
   all_goals repeat refine AI ?_
   all_goals first|kernel_rfl|omega|rfl
  ·refine fe Tryz.func27 Tryz.ntmps27 Tryz.results27 fun hwf=>?_
   try simp (maxSteps:=9^9) only[go_sem]
   repeat refine AI ?_
   repeat refine AI ?_
   refine cw c1 ?_
   try simp (maxSteps:=9^9) only[go_sem]
   repeat refine AI ?_
   repeat refine AI ?_
   refine cw c2 ?_
   try simp (maxSteps:=9^9) only[go_sem]
   repeat refine AI ?_
   repeat refine AI ?_
   refine CallK.mk (c3) ?_
   try simp (maxSteps:=9^9) only[go_sem]
   all_goals repeat refine AI ?_
   all_goals first|kernel_rfl|omega|rfl
theorem spaceOf_fn (s:DSc) (h:Int):Fn Tryz.prog 24 [⟨tScene,s⟩,⟨.int,h⟩] false [⟨tSpace,spcD s h⟩]:=by
 have c1:=LimitsOfI_fn s h
 have c2:=(BlockedAreasI_fn s h).sh
 rw [show spcD s h=(opnB s h,bxN s h,arN s h) from rfl]
 refine fe Tryz.func24 Tryz.ntmps24 Tryz.results24 fun hwf=>?_
 try simp (maxSteps:=9^9) only[go_sem]
 repeat refine AI ?_
 repeat refine AI ?_
 refine cw c1 ?_
 try simp (maxSteps:=9^9) only[go_sem]
 repeat refine AI ?_
 repeat refine AI ?_
 refine cw c2 ?_
 try simp (maxSteps:=9^9) only[go_sem]
 all_goals repeat refine AI ?_
 all_goals first|kernel_rfl|omega|rfl
abbrev BB (b:DV × DV):Prop:=((-220<=b.1.1/\b.1.1<=220)/\(-220<=b.1.2/\b.1.2<=220))/\((-220<=b.2.1/\b.2.1<=220)/\(-220<=b.2.2/\b.2.2<=220))
theorem frm_f {s:DSc} {h:Int} {p q:DP} (e:opnB s h=false):freM s h p q=false:=by unfold freM; rw [freB_f e,Bool.false_and]
noncomputable def spsD (s:DSc):tSpaces.den:=(s,(spcD s 0,(spcD s 1,(spcD s 2,spcD s 3))))
abbrev DSp:Type:=Bool × ((DV × DV) × List (List DV))
def spZ:DSp:=(false,(((0,0),(0,0)),[]))
set_option maxHeartbeats 4000000 in
theorem spacesOf_fn (s:DSc):Fn Tryz.prog 73 [⟨tScene,s⟩] false [⟨.ext .ref tSpaces,some (spsD s)⟩]:=by
 unfold spsD
 have c0:=spaceOf_fn s 0
 have c1:=spaceOf_fn s 1
 have c2:=spaceOf_fn s 2
 have c3:=spaceOf_fn s 3
 refine fnP_enter tabOK mixes Tryz.func73 rfl rfl _ Tryz.ntmps73 _ Tryz.results73 (by simp) fun hwf=>?_
 try simp (maxSteps:=9^9) only[go_sem]
 repeat refine AI ?_
 refine LoopG.intro _ _ _ (fun y:Nat=>match y with|0=>⟨[(1,.ptr 0 0),(3,.ptr 1 0),(8,.sc (.int .i64 0))],[(0,.box (cel tScene s)),(1,.box (cel tScene s++(cel tSpace spZ++(cel tSpace spZ++(cel tSpace spZ++cel tSpace spZ)))))]⟩|1=>⟨[(1,.ptr 0 0),(3,.ptr 1 0),(8,.sc (.int .i64 1))],[(0,.box (cel tScene s)),(1,.box (cel tScene s++(cel tSpace (spcD s 0)++(cel tSpace spZ++(cel tSpace spZ++cel tSpace spZ)))))]⟩|2=>⟨[(1,.ptr 0 0),(3,.ptr 1 0),(8,.sc (.int .i64 2))],[(0,.box (cel tScene s)),(1,.box (cel tScene s++(cel tSpace (spcD s 0)++(cel tSpace (spcD s 1)++(cel tSpace spZ++cel tSpace spZ)))))]⟩|3=>⟨[(1,.ptr 0 0),(3,.ptr 1 0),(8,.sc (.int .i64 3))],[(0,.box (cel tScene s)),(1,.box (cel tScene s++(cel tSpace (spcD s 0)++(cel tSpace (spcD s 1)++(cel tSpace (spcD s 2)++cel tSpace spZ)))))]⟩|_=>⟨[(1,.ptr 0 0),(3,.ptr 1 0),(8,.sc (.int .i64 4))],[(0,.box (cel tScene s)),(1,.box (cel tScene s++(cel tSpace (spcD s 0)++(cel tSpace (spcD s 1)++(cel tSpace (spcD s 2)++cel tSpace (spcD s 3))))))]⟩) (fun y=>y<=4) (fun y=>4 - y) 0 ?_ (Nat.zero_le _) ?_
 ·unfold spZ
  exact WK
 ·unfold spZ
  rintro y hy
  obtain rfl|rfl|rfl|rfl|rfl:y=0\/y=1\/y=2\/y=3\/y=4:=by omega
  ·try simp (maxSteps:=9^9) only[go_sem]
   repeat refine AI ?_
   repeat refine AI ?_
   refine cw c0 ?_
   try simp (maxSteps:=9^9) only[go_sem]
   repeat refine AI ?_
   refine LoopK.mk 1 ?_ (by omega) (by omega)
   exact WK
  ·try simp (maxSteps:=9^9) only[go_sem]
   repeat refine AI ?_
   repeat refine AI ?_
   refine cw c1 ?_
   try simp (maxSteps:=9^9) only[go_sem]
   repeat refine AI ?_
   refine LoopK.mk 2 ?_ (by omega) (by omega)
   exact WK
  ·try simp (maxSteps:=9^9) only[go_sem]
   repeat refine AI ?_
   repeat refine AI ?_
   refine cw c2 ?_
   try simp (maxSteps:=9^9) only[go_sem]
   repeat refine AI ?_
   refine LoopK.mk 3 ?_ (by omega) (by omega)
   exact WK
  ·try simp (maxSteps:=9^9) only[go_sem]
   repeat refine AI ?_
   repeat refine AI ?_
   refine cw c3 ?_
   try simp (maxSteps:=9^9) only[go_sem]
   repeat refine AI ?_
   refine LoopK.mk 4 ?_ (by omega) (by omega)
   exact WK
  ·try simp (maxSteps:=9^9) only[go_sem]
   all_goals repeat refine AI ?_
   all_goals first|kernel_rfl|omega|rfl
def clip (k:Int) (n:Nat):Nat:=(max 0 (min k (n:Int))).toNat
theorem after_fn (p:DS) (l:List DS) (k:Int):Fn Tryz.prog 72 [⟨tStep,p⟩,⟨.slice tStep,l⟩,⟨.int,k⟩] false [⟨tStep,plcS p l (clip k l.length)⟩]:=by
 unfold plcS clip
 refine fe Tryz.func72 Tryz.ntmps72 Tryz.results72 fun hwf=>?_
 have hl:l.length<=9223372036854775807:=(hwf ⟨.slice tStep,l⟩ (by simp)).1
 try simp (maxSteps:=9^9) only[go_sem]
 have hml:(List.take (max 0 (min k ↑l.length)).toNat l).length<=9223372036854775807:=by rw [List.length_take]; omega
 generalize List.take (max 0 (min k ↑l.length)).toNat l=m at hml ⊢
 repeat refine AI ?_
 refine LoopG.intro _ _ _ (fun i:Nat=>⟨[(3,.ptr 0 0),(6,.ptr 1 0),(15,.sl tStep m),(16,.sc (.int .i64 m.length)),(17,.sc (.int .i64 i))],[(1,.box [.sc (.int .i64 0),.sc (.bool false),.sc (.slice none 0 0),.sc (.slice none 0 0),.sc (.bool false),.sc (.slice none 0 0),.sc (.slice none 0 0)]),(0,.box [.sc (.int .i64 (plcS p m i).1),.sc (.bool (plcS p m i).2.1.1.1),.sl .int (plcS p m i).2.1.1.2,.sl .int (plcS p m i).2.1.2,.sc (.bool (plcS p m i).2.2.1.1),.sl .int (plcS p m i).2.2.1.2,.sl .int (plcS p m i).2.2.2])]⟩) (fun i=>i<=m.length) (fun i=>m.length - i) 0 ?_ (Nat.zero_le _) ?_
 ·exact WK
 ·rintro i hi
  try simp (maxSteps:=9^9) only[go_sem]
  refine CondW_dec (fun hA=>?_) (fun hA=>?_)
  ·have hst:=plcS_step p (show i < m.length by omega)
   have c1:=stepped_fn (plcS p m i) (nth (t:=tStep) m i)
   try simp (maxSteps:=9^9) only[go_sem]
   repeat refine AI ?_
   repeat refine AI ?_
   refine cw c1 ?_
   try simp (maxSteps:=9^9) only[go_sem]
   repeat refine AI ?_
   refine LoopK.mk (i+1) ?_ (by omega) (by omega)
   rw [hst]
   exact WK
  ·have:plcF p m=plcS p m i:=by unfold plcS; rw [List.take_of_length_le (by omega)]
   rw [this]
   try simp (maxSteps:=9^9) only[go_sem]
   all_goals repeat refine AI ?_
   all_goals first|kernel_rfl|omega|rfl
noncomputable def standP (t:DT) (k:Int):DS:=plcS t.2.1 t.2.2 (clip k t.2.2.length)
def rmB (r d:Int):Bool:=decide (0 < d) && decide (r < d * d)
def rchD (s:DSc):Int:=rchI s.2.2.1 s.2.2.1.length
noncomputable def turnB (s:DSc) (v:DV):Bool:=rmB (rchD s) (v.1 - s.1.1) && (rmB (rchD s) (s.2.1.1 - v.1) && (rmB (rchD s) (v.2 - s.1.2) && (rmB (rchD s) (s.2.1.2 - v.2) && !(s.2.2.2.1.any fun l=>discB l (ptV v) (rchD s)))))
noncomputable def otI (s:DSc):Nat->List Int
 | 0=>[]
 | i+1=>if turnB s (nth (t:=tVec) s.2.2.2.2 i) then otI s i++[(i:Int)] else otI s i
noncomputable def otD (s:DSc):List Int:=otI s s.2.2.2.2.length
theorem otI_mem {s:DSc}:∀ {i:Nat} {k:Int},k ∈ otI s i->0<=k/\k < i
 | 0,k,h=>by simp [otI] at h
 | i+1,k,h=>by
  unfold otI at h
  split at h
  ·rcases List.mem_append.1 h with h|h
   ·have:=otI_mem h; omega
   ·rw [List.mem_singleton.1 h]; omega
  ·have:=otI_mem h; omega
theorem otI_len (s:DSc):∀ i,(otI s i).length<=i
 | 0=>by simp [otI]
 | i+1=>by
  have:=otI_len s i
  unfold otI
  split
  ·simp; omega
  ·omega
noncomputable def tbGo (s:DSc) (p:DP):List Int->Int
 | []=>-1
 | k :: l=>if eqb (ptV (nth (t:=tVec) s.2.2.2.2 k.toNat)) p then k else tbGo s p l
noncomputable def tbA (s:DSc) (p:DP):Int:=tbGo s p (otD s)
noncomputable def fltD (s:DSc) (p x:DS):Int :=
 if ¬ (-1<=x.1/\x.1<=1) then 3 else
 if x.1=0 then (if freM s p.1 p.2 x.2 then 0 else 4) else
 if eqb x.2 p.2 then (if tbA s p.2 < 0 then 5 else 0) else 3
noncomputable def ckGo (s:DSc):DS->List DS->Nat->Option (Int × Int)
 | _,[],_=>none
 | p,x :: l,i=>if fltD s p x=0 then ckGo s (stp p x) l (i+1) else some (fltD s p x,(i:Int))
noncomputable def ckD (s:DSc) (p:DS) (l:List DS) (q:DS):Int × Int :=
 if sceneB s then (if freB s p.1 p.2 then (match ckGo s p l 0 with
  | some r=>r
  | none=>if (plcF p l).1=q.1/\eqb (plcF p l).2 q.2=true then (0,0) else (6,0)) else (2,0)) else (1,0)
theorem ckGo_at {s:DSc} {p:DS} {l:List DS} {i:Nat} (h:i < l.length):ckGo s (plcS p l i) (l.drop i) i=if fltD s (plcS p l i) (nth (t:=tStep) l i)=0 then ckGo s (plcS p l (i+1)) (l.drop (i+1)) (i+1) else some (fltD s (plcS p l i) (nth (t:=tStep) l i),(i:Int)):=by
 rw [List.drop_eq_getElem_cons h,plcS_step p h,nth_lt h]; rfl
noncomputable def imB (s:DSc) (p:DS) (l:List DS) (q:DS):Bool:=decide ((ckD s p l q).1=0)
theorem opnB_f2 {s:DSc} {h:Int} (hh:¬ (0<=h/\h<=3)):opnB s h=false:=opnB_f1 (by unfold hdB; rw [decide_eq_false hh,Bool.and_false])
theorem fre_bad {s:DSc} {h:Int} {p:DP} (hp:okPt p=false):freB s h p=false:=by unfold freB; rw [hp,Bool.false_and]
theorem frm_bad1 {s:DSc} {h:Int} {p q:DP} (hp:okPt p=false):freM s h p q=false:=by unfold freM; rw [fre_bad hp,Bool.false_and]
theorem frm_bad2 {s:DSc} {h:Int} {p q:DP} (hq:okPt q=false):freM s h p q=false:=by unfold freM; rw [fre_bad hq,Bool.false_and,Bool.and_false]
set_option maxHeartbeats 2000000 in
theorem spsFree_fn (s:DSc) (h:Int) (p:DP):Fn Tryz.prog 146 [⟨.ext .ref tSpaces,some (spsD s)⟩,⟨.int,h⟩,⟨tPoint,p⟩] false [⟨.bool,freB s h p⟩]:=by
 have c1:=isHeading_fn h
 have c2:=arePoints1_fn p
 unfold spsD
 by_cases hh:0<=h/\h<=3
 rotate_left
 ·rw [decide_eq_false hh] at c1
  rw [freB_f (opnB_f2 hh)]
  refine fe Tryz.func146 Tryz.ntmps146 Tryz.results146 fun hwf=>?_
  try simp (maxSteps:=9^9) only[go_sem]
  repeat refine AI ?_
  repeat refine AI ?_
  refine cw c1 ?_
  try simp (maxSteps:=9^9) only[go_sem]
  repeat refine AI ?_
  all_goals repeat refine AI ?_
  all_goals first|kernel_rfl|omega|rfl
 rw [decide_eq_true hh] at c1
 cases hp:okPt p<;>rw [hp] at c2
 ·rw [fre_bad hp]
  refine fe Tryz.func146 Tryz.ntmps146 Tryz.results146 fun hwf=>?_
  try simp (maxSteps:=9^9) only[go_sem]
  repeat refine AI ?_
  repeat refine AI ?_
  refine cw c1 ?_
  try simp (maxSteps:=9^9) only[go_sem]
  repeat refine AI ?_
  repeat refine AI ?_
  refine cw c2 ?_
  try simp (maxSteps:=9^9) only[go_sem]
  repeat refine AI ?_
  all_goals repeat refine AI ?_
  all_goals first|kernel_rfl|omega|rfl
 obtain rfl|rfl|rfl|rfl:h=0\/h=1\/h=2\/h=3:=by omega
 ·have c3:=isFreeI_fn s 0 p hp
  refine fe Tryz.func146 Tryz.ntmps146 Tryz.results146 fun hwf=>?_
  try simp (maxSteps:=9^9) only[go_sem]
  repeat refine AI ?_
  repeat refine AI ?_
  refine cw c1 ?_
  try simp (maxSteps:=9^9) only[go_sem]
  repeat refine AI ?_
  repeat refine AI ?_
  refine cw c2 ?_
  try simp (maxSteps:=9^9) only[go_sem]
  repeat refine AI ?_
  repeat refine AI ?_
  refine cw c3 ?_
  try simp (maxSteps:=9^9) only[go_sem]
  repeat refine AI ?_
  all_goals repeat refine AI ?_
  all_goals first|kernel_rfl|omega|rfl
 ·have c3:=isFreeI_fn s 1 p hp
  refine fe Tryz.func146 Tryz.ntmps146 Tryz.results146 fun hwf=>?_
  try simp (maxSteps:=9^9) only[go_sem]
  repeat refine AI ?_
  repeat refine AI ?_
  refine cw c1 ?_
  try simp (maxSteps:=9^9) only[go_sem]
  repeat refine AI ?_
  repeat refine AI ?_
  refine cw c2 ?_
  try simp (maxSteps:=9^9) only[go_sem]
  repeat refine AI ?_
  repeat refine AI ?_
  refine cw c3 ?_
  try simp (maxSteps:=9^9) only[go_sem]
  repeat refine AI ?_
  all_goals repeat refine AI ?_
  all_goals first|kernel_rfl|omega|rfl
 ·have c3:=isFreeI_fn s 2 p hp
  refine fe Tryz.func146 Tryz.ntmps146 Tryz.results146 fun hwf=>?_
  try simp (maxSteps:=9^9) only[go_sem]
  repeat refine AI ?_
  repeat refine AI ?_
  refine cw c1 ?_
  try simp (maxSteps:=9^9) only[go_sem]
  repeat refine AI ?_
  repeat refine AI ?_
  refine cw c2 ?_
  try simp (maxSteps:=9^9) only[go_sem]
  repeat refine AI ?_
  repeat refine AI ?_
  refine cw c3 ?_
  try simp (maxSteps:=9^9) only[go_sem]
  repeat refine AI ?_
  all_goals repeat refine AI ?_
  all_goals first|kernel_rfl|omega|rfl
 ·have c3:=isFreeI_fn s 3 p hp
  refine fe Tryz.func146 Tryz.ntmps146 Tryz.results146 fun hwf=>?_
  try simp (maxSteps:=9^9) only[go_sem]
  repeat refine AI ?_
  repeat refine AI ?_
  refine cw c1 ?_
  try simp (maxSteps:=9^9) only[go_sem]
  repeat refine AI ?_
  repeat refine AI ?_
  refine cw c2 ?_
  try simp (maxSteps:=9^9) only[go_sem]
  repeat refine AI ?_
  repeat refine AI ?_
  refine cw c3 ?_
  try simp (maxSteps:=9^9) only[go_sem]
  repeat refine AI ?_
  all_goals repeat refine AI ?_
  all_goals first|kernel_rfl|omega|rfl
set_option maxHeartbeats 2000000 in
theorem spsFreeMove_fn (s:DSc) (h:Int) (p q:DP):Fn Tryz.prog 169 [⟨.ext .ref tSpaces,some (spsD s)⟩,⟨.int,h⟩,⟨tPoint,p⟩,⟨tPoint,q⟩] false [⟨.bool,freM s h p q⟩]:=by
 have c1:=isHeading_fn h
 have c2:=arePoints2_fn p q
 unfold spsD
 by_cases hh:0<=h/\h<=3
 rotate_left
 ·rw [decide_eq_false hh] at c1
  rw [frm_f (opnB_f2 hh)]
  refine fe Tryz.func169 Tryz.ntmps169 Tryz.results169 fun hwf=>?_
  try simp (maxSteps:=9^9) only[go_sem]
  repeat refine AI ?_
  repeat refine AI ?_
  refine cw c1 ?_
  try simp (maxSteps:=9^9) only[go_sem]
  repeat refine AI ?_
  all_goals repeat refine AI ?_
  all_goals first|kernel_rfl|omega|rfl
 rw [decide_eq_true hh] at c1
 cases hp:okPt p
 ·rw [hp,Bool.false_and] at c2
  rw [frm_bad1 hp]
  refine fe Tryz.func169 Tryz.ntmps169 Tryz.results169 fun hwf=>?_
  try simp (maxSteps:=9^9) only[go_sem]
  repeat refine AI ?_
  repeat refine AI ?_
  refine cw c1 ?_
  try simp (maxSteps:=9^9) only[go_sem]
  repeat refine AI ?_
  repeat refine AI ?_
  refine cw c2 ?_
  try simp (maxSteps:=9^9) only[go_sem]
  repeat refine AI ?_
  all_goals repeat refine AI ?_
  all_goals first|kernel_rfl|omega|rfl
 cases hq:okPt q
 ·rw [hp,hq,Bool.true_and] at c2
  rw [frm_bad2 hq]
  refine fe Tryz.func169 Tryz.ntmps169 Tryz.results169 fun hwf=>?_
  try simp (maxSteps:=9^9) only[go_sem]
  repeat refine AI ?_
  repeat refine AI ?_
  refine cw c1 ?_
  try simp (maxSteps:=9^9) only[go_sem]
  repeat refine AI ?_
  repeat refine AI ?_
  refine cw c2 ?_
  try simp (maxSteps:=9^9) only[go_sem]
  repeat refine AI ?_
  all_goals repeat refine AI ?_
  all_goals first|kernel_rfl|omega|rfl
 rw [hp,hq,Bool.true_and] at c2
 obtain rfl|rfl|rfl|rfl:h=0\/h=1\/h=2\/h=3:=by omega
 ·have c3:=isFreeMoveI_fn s 0 p q hp hq
  refine fe Tryz.func169 Tryz.ntmps169 Tryz.results169 fun hwf=>?_
  try simp (maxSteps:=9^9) only[go_sem]
  repeat refine AI ?_
  repeat refine AI ?_
  refine cw c1 ?_
  try simp (maxSteps:=9^9) only[go_sem]
  repeat refine AI ?_
  repeat refine AI ?_
  refine cw c2 ?_
  try simp (maxSteps:=9^9) only[go_sem]
  repeat refine AI ?_
  repeat refine AI ?_
  refine cw c3 ?_
  try simp (maxSteps:=9^9) only[go_sem]
  repeat refine AI ?_
  all_goals repeat refine AI ?_
  all_goals first|kernel_rfl|omega|rfl
 ·have c3:=isFreeMoveI_fn s 1 p q hp hq
  refine fe Tryz.func169 Tryz.ntmps169 Tryz.results169 fun hwf=>?_
  try simp (maxSteps:=9^9) only[go_sem]
  repeat refine AI ?_
  repeat refine AI ?_
  refine cw c1 ?_
  try simp (maxSteps:=9^9) only[go_sem]
  repeat refine AI ?_
  repeat refine AI ?_
  refine cw c2 ?_
  try simp (maxSteps:=9^9) only[go_sem]
  repeat refine AI ?_
  repeat refine AI ?_
  refine cw c3 ?_
  try simp (maxSteps:=9^9) only[go_sem]
  repeat refine AI ?_
  all_goals repeat refine AI ?_
  all_goals first|kernel_rfl|omega|rfl
 ·have c3:=isFreeMoveI_fn s 2 p q hp hq
  refine fe Tryz.func169 Tryz.ntmps169 Tryz.results169 fun hwf=>?_
  try simp (maxSteps:=9^9) only[go_sem]
  repeat refine AI ?_
  repeat refine AI ?_
  refine cw c1 ?_
  try simp (maxSteps:=9^9) only[go_sem]
  repeat refine AI ?_
  repeat refine AI ?_
  refine cw c2 ?_
  try simp (maxSteps:=9^9) only[go_sem]
  repeat refine AI ?_
  repeat refine AI ?_
  refine cw c3 ?_
  try simp (maxSteps:=9^9) only[go_sem]
  repeat refine AI ?_
  all_goals repeat refine AI ?_
  all_goals first|kernel_rfl|omega|rfl
 ·have c3:=isFreeMoveI_fn s 3 p q hp hq
  refine fe Tryz.func169 Tryz.ntmps169 Tryz.results169 fun hwf=>?_
  try simp (maxSteps:=9^9) only[go_sem]
  repeat refine AI ?_
  repeat refine AI ?_
  refine cw c1 ?_
  try simp (maxSteps:=9^9) only[go_sem]
  repeat refine AI ?_
  repeat refine AI ?_
  refine cw c2 ?_
  try simp (maxSteps:=9^9) only[go_sem]
  repeat refine AI ?_
  repeat refine AI ?_
  refine cw c3 ?_
  try simp (maxSteps:=9^9) only[go_sem]
  repeat refine AI ?_
  all_goals repeat refine AI ?_
  all_goals first|kernel_rfl|omega|rfl
theorem rch_b {s:DSc} (hs:sceneB s=true):0<=rchD s/\rchD s<=1000000:=by
 have h1:=(scene_p hs).rob
 have h2:∀ i,i<=s.2.2.1.length->0<=rchI s.2.2.1 i/\rchI s.2.2.1 i<=800:=by
  intro i
  induction i with
  | zero=>intro _; unfold rchI; omega
  | succ i ih =>
   intro hi
   have h3:=ih (by omega)
   obtain ⟨b1,b2,b3,b4⟩:=inB_b (h1.ins _ (nth_mem (i:=i) (by omega)))
   have h4:=sqI_le (k:=20) b1 b2
   have h5:=sqI_le (k:=20) b3 b4
   have h6:=sq_nn (nth (t:=tVec) s.2.2.1 i).1
   have h7:=sq_nn (nth (t:=tVec) s.2.2.1 i).2
   unfold rchI
   omega
 have:=h2 _ (Nat.le_refl _)
 unfold rchD
 omega
def dsT (s:DSc) (v:DV):List Int:=[v.1 - s.1.1,s.2.1.1 - v.1,v.2 - s.1.2,s.2.1.2 - v.2]
noncomputable def obT (s:DSc) (v:DV):Bool:=s.2.2.2.1.any fun l=>discB l (ptV v) (rchD s)
theorem turn_eq (s:DSc) (v:DV):turnB s v=((dsT s v).all (rmB (rchD s)) && !obT s v):=by
 unfold turnB dsT obT
 simp only [List.all_cons,List.all_nil,Bool.and_true,Bool.and_assoc]
theorem dsT_b {s:DSc} (hs:sceneB s=true) {v:DV} (hv:inB 200 v=true):∀ d ∈ dsT s v,-400<=d/\d<=400:=by
 have h1:=inB_b (scene_p hs).low
 have h2:=inB_b (scene_p hs).high
 have h3:=inB_b hv
 unfold dsT
 intro d hd
 simp only [List.mem_cons,List.not_mem_nil,or_false] at hd
 omega
theorem inB_ok {v:DV} (h:inB 200 v=true):okV v=true:=by
 have:=inB_b h
 exact okV_of (by omega) (by omega) (by omega) (by omega)
theorem canTurnC_fn (l:List DV) (v:DV) (n:Int) (hl:polyP l) (hn:0<=n/\n<=1000000):Fn Tryz.prog 197 [⟨.slice tVec,l⟩,⟨.ext .ref tVec,some v⟩,⟨.ext .ref .int,some n⟩] false [⟨.bool,discB l (ptV v) n⟩]:=by
 have c1:=PointOfI_fn v
 have c2:=DiscTouchesI_fn l (ptV v) n hl hn
 refine fe Tryz.func197 Tryz.ntmps197 Tryz.results197 fun hwf=>?_
 try simp (maxSteps:=9^9) only[go_sem]
 repeat refine AI ?_
 repeat refine AI ?_
 refine cw c1 ?_
 try simp (maxSteps:=9^9) only[go_sem]
 repeat refine AI ?_
 repeat refine AI ?_
 refine cw c2 ?_
 try simp (maxSteps:=9^9) only[go_sem]
 all_goals repeat refine AI ?_
 all_goals first|kernel_rfl|omega|rfl
set_option maxHeartbeats 2000000 in
theorem CanTurnI_fn (s:DSc) (v:DV) (hs:sceneB s=true) (hv:inB 200 v=true):Fn Tryz.prog 185 [⟨tScene,s⟩,⟨tVec,v⟩] false [⟨.bool,turnB s v⟩]:=by
 have c1:=IsValidSceneI_fn s
 rw [hs] at c1
 have c2:=isVec_fn v
 rw [inB_ok hv] at c2
 have hr:=rch_b hs
 have c3:=ReachSquareI_fn s.2.2.1 (scene_p hs).rob.poly
 rw [show rchI s.2.2.1 s.2.2.1.length=rchD s from rfl] at c3
 have hd:=dsT_b hs hv
 have h1:=inB_b (scene_p hs).low
 have h2:=inB_b (scene_p hs).high
 have h3:=inB_b hv
 have c4:=containsFunc_vsC_fn 197 (.prod (.ext .ref tVec) (.ext .ref .int)) (some v,some (rchD s)) (fun l=>discB l (ptV v) (rchD s)) s.2.2.2.1 (fun y hy=>canTurnC_fn y v _ ((scene_p hs).obs y hy).poly hr)
 rw [turn_eq]
 unfold obT
 refine fe Tryz.func185 Tryz.ntmps185 Tryz.results185 fun hwf=>?_
 try simp (maxSteps:=9^9) only[go_sem]
 repeat refine AI ?_
 repeat refine AI ?_
 refine cw c1 ?_
 try simp (maxSteps:=9^9) only[go_sem]
 repeat refine AI ?_
 repeat refine AI ?_
 refine cw c2 ?_
 try simp (maxSteps:=9^9) only[go_sem]
 repeat refine AI ?_
 repeat refine AI ?_
 refine cw c3 ?_
 try simp (maxSteps:=9^9) only[go_sem]
 repeat refine AI ?_
 refine LoopG.intro _ _ _ (fun i:Nat=>⟨[(2,.ptr 0 0),(3,.ptr 1 0),(5,.ptr 2 0),(43,.row 3 0),(44,.sc (.int .i64 4)),(45,.sc (.int .i64 i))],[(0,.box (cel tScene s)),(1,.box (cel tVec v)),(2,.box [.sc (.int .i64 (rchD s))]),(3,.row 3 .int 0 true (dsT s v))]⟩) (fun i=>i<=4/\∀ j,j < i->rmB (rchD s) (ni (dsT s v) j)=true) (fun i=>4 - i) 0 ?_ ⟨Nat.zero_le _,fun j h=>absurd h (Nat.not_lt_zero _)⟩ ?_
 ·unfold dsT
  exact WK
 ·rintro i ⟨hi,hall⟩
  have hlen:(dsT s v).length=4:=rfl
  try simp (maxSteps:=9^9) only[go_sem]
  refine CondW_dec (fun hA=>?_) (fun hA=>?_)
  ·have hlt:i < (dsT s v).length:=by omega
   have hb:=hd (ni (dsT s v) i) (by rw [ni_lt hlt]; exact List.getElem_mem hlt)
   have hm:=mul_bd (x:=ni (dsT s v) i) (y:=ni (dsT s v) i) (by omega) (by omega) (by omega) (by omega)
   by_cases e1:ni (dsT s v) i<=0
   ·have d1:=decide_eq_true e1
    have e:(dsT s v).all (rmB (rchD s))=false:=by
     rw [List.all_eq_false]
     refine ⟨ni (dsT s v) i,by rw [ni_lt hlt]; exact List.getElem_mem hlt,?_⟩
     unfold rmB
     rw [decide_eq_false (by omega),Bool.false_and]; decide
    rw [e,Bool.false_and]
    try simp (maxSteps:=9^9) only[go_sem,hlen]
    repeat refine AI ?_
    try simp (maxSteps:=9^9) only[go_sem,d1]
    all_goals repeat refine AI ?_
    all_goals first|kernel_rfl|omega|rfl
   ·have d1:=decide_eq_false e1
    by_cases e2:ni (dsT s v) i * ni (dsT s v) i<=rchD s
    ·have d2:=decide_eq_true e2
     have e:(dsT s v).all (rmB (rchD s))=false:=by
      rw [List.all_eq_false]
      refine ⟨ni (dsT s v) i,by rw [ni_lt hlt]; exact List.getElem_mem hlt,?_⟩
      unfold rmB
      rw [decide_eq_false (p:=rchD s < _) (by omega),Bool.and_false]; decide
     rw [e,Bool.false_and]
     try simp (maxSteps:=9^9) only[go_sem,hlen]
     repeat refine AI ?_
     try simp (maxSteps:=9^9) only[go_sem,d1]
     repeat refine AI ?_
     try simp (maxSteps:=9^9) only[go_sem,d2]
     all_goals repeat refine AI ?_
     all_goals first|kernel_rfl|omega|rfl
    ·have d2:=decide_eq_false e2
     try simp (maxSteps:=9^9) only[go_sem,hlen]
     repeat refine AI ?_
     try simp (maxSteps:=9^9) only[go_sem,d1]
     repeat refine AI ?_
     try simp (maxSteps:=9^9) only[go_sem,d2]
     repeat refine AI ?_
     refine LoopK.mk (i+1) ?_ ⟨by omega,fun j hj=>?_⟩ (by omega)
     ·exact WK
     ·by_cases h:j < i
      ·exact hall j h
      ·rw [show j=i by omega]
       unfold rmB
       rw [decide_eq_true (by omega),decide_eq_true (by omega)]; rfl
  ·have e:(dsT s v).all (rmB (rchD s))=true:=by
    rw [List.all_eq_true]
    intro d hdm
    obtain ⟨j,hj,rfl⟩:=List.getElem_of_mem hdm
    have:=hall j (by omega)
    rwa [ni_lt hj] at this
   rw [e,Bool.true_and]
   try simp (maxSteps:=9^9) only[go_sem]
   repeat refine AI ?_
   repeat refine AI ?_
   refine CallK.mk (c4) ?_
   try simp (maxSteps:=9^9) only[go_sem]
   all_goals repeat refine AI ?_
   all_goals first|kernel_rfl|omega|rfl
set_option maxHeartbeats 1000000 in
theorem OpenTablesI_fn (s:DSc) (hs:sceneB s=true):Fn Tryz.prog 182 [⟨tScene,s⟩] true [⟨tInts,otD s⟩]:=by
 have c1:=IsValidSceneI_fn s
 rw [hs] at c1
 have hnt:=(scene_p hs).ntab
 refine fe Tryz.func182 Tryz.ntmps182 Tryz.results182 fun hwf=>?_
 try simp (maxSteps:=9^9) only[go_sem]
 repeat refine AI ?_
 repeat refine AI ?_
 refine cw c1 ?_
 try simp (maxSteps:=9^9) only[go_sem]
 repeat refine AI ?_
 refine LoopG.intro _ _ _ (fun i:Nat=>⟨[(1,.ptr 0 0),(3,.row 1 0),(11,.sl tVec s.2.2.2.2),(12,.sc (.int .i64 s.2.2.2.2.length)),(13,.sc (.int .i64 i))],[(0,.box (cel tScene s)),(1,.row 3 .int 0 true (otI s i))]⟩) (fun i=>i<=s.2.2.2.2.length) (fun i=>s.2.2.2.2.length - i) 0 ?_ (Nat.zero_le _) ?_
 ·exact WK
 ·rintro i hi
  have hol:=otI_len s i
  try simp (maxSteps:=9^9) only[go_sem]
  refine CondW_dec (fun hA=>?_) (fun hA=>?_)
  ·have hlt:i < s.2.2.2.2.length:=by omega
   have c2:=CanTurnI_fn s (nth (t:=tVec) s.2.2.2.2 i) hs ((scene_p hs).tabs _ (nth_mem hlt))
   cases ht:turnB s (nth (t:=tVec) s.2.2.2.2 i)<;>rw [ht] at c2
   ·try simp (maxSteps:=9^9) only[go_sem]
    repeat refine AI ?_
    repeat refine AI ?_
    refine cw c2 ?_
    try simp (maxSteps:=9^9) only[go_sem]
    repeat refine AI ?_
    refine LoopK.mk (i+1) ?_ (by omega) (by omega)
    rw [show otI s (i+1)=otI s i from if_neg (by rw [ht]; decide)]
    exact WK
   ·try simp (maxSteps:=9^9) only[go_sem]
    repeat refine AI ?_
    repeat refine AI ?_
    refine cw c2 ?_
    try simp (maxSteps:=9^9) only[go_sem]
    repeat refine AI ?_
    refine LoopK.mk (i+1) ?_ (by omega) (by omega)
    rw [show otI s (i+1)=otI s i++[(i:Int)] from if_pos ht]
    exact WK
  ·rw [show otD s=otI s i by unfold otD; rw [show i=s.2.2.2.2.length by omega]]
   try simp (maxSteps:=9^9) only[go_sem]
   all_goals repeat refine AI ?_
   all_goals first|kernel_rfl|omega|rfl
theorem tbGo_at {s:DSc} {p:DP} {l:List Int} {i:Nat} (h:i < l.length):tbGo s p (l.drop i)=if eqb (ptV (nth (t:=tVec) s.2.2.2.2 (ni l i).toNat)) p then ni l i else tbGo s p (l.drop (i+1)):=by
 rw [List.drop_eq_getElem_cons h,ni_lt h]; rfl
theorem otD_mem {s:DSc} {i:Nat} (h:i < (otD s).length):0<=ni (otD s) i/\ni (otD s) i < s.2.2.2.2.length:=by
 rw [ni_lt h]
 exact otI_mem (List.getElem_mem h)
set_option maxHeartbeats 1000000 in
theorem TableAtI_fn (s:DSc) (p:DP) (hs:sceneB s=true):Fn Tryz.prog 170 [⟨tScene,s⟩,⟨tPoint,p⟩] false [⟨.int,tbA s p⟩]:=by
 have c1:=(OpenTablesI_fn s hs).sh
 have hnt:=otI_len s s.2.2.2.2.length
 have hn3:=(scene_p hs).ntab
 rw [show otI s s.2.2.2.2.length=otD s from rfl] at hnt
 unfold tbA
 refine fe Tryz.func170 Tryz.ntmps170 Tryz.results170 fun hwf=>?_
 try simp (maxSteps:=9^9) only[go_sem]
 repeat refine AI ?_
 repeat refine AI ?_
 refine cw c1 ?_
 try simp (maxSteps:=9^9) only[go_sem]
 repeat refine AI ?_
 refine LoopG.intro _ _ _ (fun i:Nat=>⟨[(2,.ptr 0 0),(3,.ptr 1 0),(8,.sl .int (otD s)),(9,.sc (.int .i64 (otD s).length)),(10,.sc (.int .i64 i))],[(0,.box (cel tScene s)),(1,.box (cel tPoint p))]⟩) (fun i=>i<=(otD s).length/\tbGo s p (otD s)=tbGo s p ((otD s).drop i)) (fun i=>(otD s).length - i) 0 ?_ ⟨Nat.zero_le _,rfl⟩ ?_
 ·exact WK
 ·rintro i ⟨hi,hgo⟩
  try simp (maxSteps:=9^9) only[go_sem]
  refine CondW_dec (fun hA=>?_) (fun hA=>?_)
  ·have hlt:i < (otD s).length:=by omega
   have hm:=otD_mem hlt
   rw [tbGo_at hlt] at hgo
   have c2:=PointOfI_fn (nth (t:=tVec) s.2.2.2.2 (ni (otD s) i).toNat)
   have c3:=implSame_fn (ptV (nth (t:=tVec) s.2.2.2.2 (ni (otD s) i).toNat)) p
   cases he:eqb (ptV (nth (t:=tVec) s.2.2.2.2 (ni (otD s) i).toNat)) p<;>rw [he] at c3 hgo
   ·rw [if_neg (by decide)] at hgo
    try simp (maxSteps:=9^9) only[go_sem]
    repeat refine AI ?_
    repeat refine AI ?_
    refine cw c2 ?_
    try simp (maxSteps:=9^9) only[go_sem]
    repeat refine AI ?_
    repeat refine AI ?_
    refine cw c3 ?_
    try simp (maxSteps:=9^9) only[go_sem]
    repeat refine AI ?_
    refine LoopK.mk (i+1) ?_ ⟨by omega,hgo⟩ (by omega)
    exact WK
   ·rw [if_pos rfl] at hgo
    rw [hgo]
    try simp (maxSteps:=9^9) only[go_sem]
    repeat refine AI ?_
    repeat refine AI ?_
    refine cw c2 ?_
    try simp (maxSteps:=9^9) only[go_sem]
    repeat refine AI ?_
    repeat refine AI ?_
    refine cw c3 ?_
    try simp (maxSteps:=9^9) only[go_sem]
    all_goals repeat refine AI ?_
    all_goals first|kernel_rfl|omega|rfl
  ·rw [List.drop_of_length_le (by omega)] at hgo
   rw [hgo]
   try simp (maxSteps:=9^9) only[go_sem]
   all_goals repeat refine AI ?_
   all_goals first|kernel_rfl|omega|rfl
theorem flt_1 {s:DSc} {p x:DS} (h:¬ (-1<=x.1/\x.1<=1)):fltD s p x=3:=if_pos h
theorem flt_2 {s:DSc} {p x:DS} (h:x.1=0):fltD s p x=if freM s p.1 p.2 x.2 then 0 else 4:=by
 unfold fltD
 rw [if_neg (by omega),if_pos h]
theorem flt_3 {s:DSc} {p x:DS} (h:-1<=x.1/\x.1<=1) (h0:¬ x.1=0):fltD s p x=if eqb x.2 p.2 then (if tbA s p.2 < 0 then 5 else 0) else 3:=by
 unfold fltD
 rw [if_neg (not_not_intro h),if_neg h0]
set_option maxHeartbeats 2000000 in
theorem stepFaultI_fn (s:DSc) (p x:DS) (hs:sceneB s=true):Fn Tryz.prog 147 [⟨.ext .ref tSpaces,some (spsD s)⟩,⟨tStep,p⟩,⟨tStep,x⟩] false [⟨.int,fltD s p x⟩]:=by
 have c1:=within_fn x.1 (-1) 1
 have c2:=implSame_fn x.2 p.2
 have c3:=spsFreeMove_fn s p.1 p.2 x.2
 have c4:=TableAtI_fn s p.2 hs
 unfold spsD at c3 ⊢
 by_cases h1:-1<=x.1/\x.1<=1
 rotate_left
 ·rw [decide_eq_false h1] at c1
  rw [flt_1 h1]
  refine fe Tryz.func147 Tryz.ntmps147 Tryz.results147 fun hwf=>?_
  try simp (maxSteps:=9^9) only[go_sem]
  repeat refine AI ?_
  repeat refine AI ?_
  refine cw c1 ?_
  try simp (maxSteps:=9^9) only[go_sem]
  repeat refine AI ?_
  all_goals repeat refine AI ?_
  all_goals first|kernel_rfl|omega|rfl
 rw [decide_eq_true h1] at c1
 by_cases h0:x.1=0
 ·have d0:=decide_eq_true h0
  rw [flt_2 h0]
  cases hf:freM s p.1 p.2 x.2<;>rw [hf] at c3
  ·rw [if_neg (by decide)]
   refine fe Tryz.func147 Tryz.ntmps147 Tryz.results147 fun hwf=>?_
   try simp (maxSteps:=9^9) only[go_sem]
   repeat refine AI ?_
   repeat refine AI ?_
   refine cw c1 ?_
   try simp (maxSteps:=9^9) only[go_sem]
   repeat refine AI ?_
   try simp (maxSteps:=9^9) only[go_sem,d0]
   repeat refine AI ?_
   repeat refine AI ?_
   refine cw c3 ?_
   try simp (maxSteps:=9^9) only[go_sem]
   repeat refine AI ?_
   try simp (maxSteps:=9^9) only[go_sem,d0]
   repeat refine AI ?_
   all_goals repeat refine AI ?_
   all_goals first|kernel_rfl|omega|rfl
  ·rw [if_pos rfl]
   refine fe Tryz.func147 Tryz.ntmps147 Tryz.results147 fun hwf=>?_
   try simp (maxSteps:=9^9) only[go_sem]
   repeat refine AI ?_
   repeat refine AI ?_
   refine cw c1 ?_
   try simp (maxSteps:=9^9) only[go_sem]
   repeat refine AI ?_
   try simp (maxSteps:=9^9) only[go_sem,d0]
   repeat refine AI ?_
   repeat refine AI ?_
   refine cw c3 ?_
   try simp (maxSteps:=9^9) only[go_sem]
   repeat refine AI ?_
   try simp (maxSteps:=9^9) only[go_sem,d0]
   repeat refine AI ?_
   all_goals repeat refine AI ?_
   all_goals first|kernel_rfl|omega|rfl
 have d0:=decide_eq_false h0
 rw [flt_3 h1 h0]
 cases he:eqb x.2 p.2<;>rw [he] at c2
 ·rw [if_neg (by decide)]
  refine fe Tryz.func147 Tryz.ntmps147 Tryz.results147 fun hwf=>?_
  try simp (maxSteps:=9^9) only[go_sem]
  repeat refine AI ?_
  repeat refine AI ?_
  refine cw c1 ?_
  try simp (maxSteps:=9^9) only[go_sem]
  repeat refine AI ?_
  try simp (maxSteps:=9^9) only[go_sem,d0]
  repeat refine AI ?_
  repeat refine AI ?_
  refine cw c2 ?_
  try simp (maxSteps:=9^9) only[go_sem]
  repeat refine AI ?_
  try simp (maxSteps:=9^9) only[go_sem,d0]
  repeat refine AI ?_
  all_goals repeat refine AI ?_
  all_goals first|kernel_rfl|omega|rfl
 rw [if_pos rfl]
 by_cases ht:tbA s p.2 < 0
 ·have dt:=decide_eq_true ht
  rw [if_pos ht]
  refine fe Tryz.func147 Tryz.ntmps147 Tryz.results147 fun hwf=>?_
  try simp (maxSteps:=9^9) only[go_sem]
  repeat refine AI ?_
  repeat refine AI ?_
  refine cw c1 ?_
  try simp (maxSteps:=9^9) only[go_sem]
  repeat refine AI ?_
  try simp (maxSteps:=9^9) only[go_sem,d0]
  repeat refine AI ?_
  repeat refine AI ?_
  refine cw c2 ?_
  try simp (maxSteps:=9^9) only[go_sem]
  repeat refine AI ?_
  try simp (maxSteps:=9^9) only[go_sem,d0]
  repeat refine AI ?_
  repeat refine AI ?_
  refine cw c4 ?_
  try simp (maxSteps:=9^9) only[go_sem]
  repeat refine AI ?_
  try simp (maxSteps:=9^9) only[go_sem,dt]
  repeat refine AI ?_
  all_goals repeat refine AI ?_
  all_goals first|kernel_rfl|omega|rfl
 ·have dt:=decide_eq_false ht
  rw [if_neg ht]
  refine fe Tryz.func147 Tryz.ntmps147 Tryz.results147 fun hwf=>?_
  try simp (maxSteps:=9^9) only[go_sem]
  repeat refine AI ?_
  repeat refine AI ?_
  refine cw c1 ?_
  try simp (maxSteps:=9^9) only[go_sem]
  repeat refine AI ?_
  try simp (maxSteps:=9^9) only[go_sem,d0]
  repeat refine AI ?_
  repeat refine AI ?_
  refine cw c2 ?_
  try simp (maxSteps:=9^9) only[go_sem]
  repeat refine AI ?_
  try simp (maxSteps:=9^9) only[go_sem,d0]
  repeat refine AI ?_
  repeat refine AI ?_
  refine cw c4 ?_
  try simp (maxSteps:=9^9) only[go_sem]
  repeat refine AI ?_
  try simp (maxSteps:=9^9) only[go_sem,dt]
  repeat refine AI ?_
  all_goals repeat refine AI ?_
  all_goals first|kernel_rfl|omega|rfl
theorem samePl_fn (p q:DS):Fn Tryz.prog 148 [⟨tStep,p⟩,⟨tStep,q⟩] false [⟨.bool,decide (p.1=q.1) && eqb p.2 q.2⟩]:=by
 have c1:=implSame_fn p.2 q.2
 by_cases h0:p.1=q.1
 ·have d0:=decide_eq_true h0
  rw [d0]
  refine fe Tryz.func148 Tryz.ntmps148 Tryz.results148 fun hwf=>?_
  try simp (maxSteps:=9^9) only[go_sem,d0]
  repeat refine AI ?_
  repeat refine AI ?_
  refine cw c1 ?_
  try simp (maxSteps:=9^9) only[go_sem]
  all_goals repeat refine AI ?_
  all_goals first|kernel_rfl|omega|rfl
 ·have d0:=decide_eq_false h0
  rw [d0]
  refine fe Tryz.func148 Tryz.ntmps148 Tryz.results148 fun hwf=>?_
  try simp (maxSteps:=9^9) only[go_sem,d0]
  all_goals repeat refine AI ?_
  all_goals first|kernel_rfl|omega|rfl
theorem ck_1 {s:DSc} {p q:DS} {l:List DS} (h:sceneB s=false):ckD s p l q=(1,0):=if_neg (by rw [h]; decide)
theorem ck_2 {s:DSc} {p q:DS} {l:List DS} (h:sceneB s=true) (h2:freB s p.1 p.2=false):ckD s p l q=(2,0):=by
 unfold ckD
 rw [if_pos h,if_neg (by rw [h2]; decide)]
theorem ck_3 {s:DSc} {p q:DS} {l:List DS} (h:sceneB s=true) (h2:freB s p.1 p.2=true) {r:Int × Int} (h3:ckGo s p l 0=some r):ckD s p l q=r:=by
 unfold ckD
 rw [if_pos h,if_pos h2,h3]
theorem ck_4 {s:DSc} {p q:DS} {l:List DS} (h:sceneB s=true) (h2:freB s p.1 p.2=true) (h3:ckGo s p l 0=none):ckD s p l q=if (plcF p l).1=q.1/\eqb (plcF p l).2 q.2=true then (0,0) else (6,0):=by
 unfold ckD
 rw [if_pos h,if_pos h2,h3]
set_option maxHeartbeats 2000000 in
theorem CheckMotionI_fn (s:DSc) (p:DS) (l:List DS) (q:DS):Fn Tryz.prog 111 [⟨tScene,s⟩,⟨tStep,p⟩,⟨.slice tStep,l⟩,⟨tStep,q⟩] false [⟨.int,(ckD s p l q).1⟩,⟨.int,(ckD s p l q).2⟩]:=by
 have c1:=IsValidSceneI_fn s
 cases hs:sceneB s<;>rw [hs] at c1
 ·rw [ck_1 hs]
  refine fe Tryz.func111 Tryz.ntmps111 Tryz.results111 fun hwf=>?_
  try simp (maxSteps:=9^9) only[go_sem]
  repeat refine AI ?_
  repeat refine AI ?_
  refine cw c1 ?_
  try simp (maxSteps:=9^9) only[go_sem]
  repeat refine AI ?_
  all_goals repeat refine AI ?_
  all_goals first|kernel_rfl|omega|rfl
 have c2:=spacesOf_fn s
 have c3:=spsFree_fn s p.1 p.2
 cases hf:freB s p.1 p.2<;>rw [hf] at c3
 ·rw [ck_2 hs hf]
  refine fe Tryz.func111 Tryz.ntmps111 Tryz.results111 fun hwf=>?_
  try simp (maxSteps:=9^9) only[go_sem]
  repeat refine AI ?_
  repeat refine AI ?_
  refine cw c1 ?_
  try simp (maxSteps:=9^9) only[go_sem]
  repeat refine AI ?_
  repeat refine AI ?_
  refine cw c2 ?_
  try simp (maxSteps:=9^9) only[go_sem]
  repeat refine AI ?_
  repeat refine AI ?_
  refine cw c3 ?_
  try simp (maxSteps:=9^9) only[go_sem]
  repeat refine AI ?_
  all_goals repeat refine AI ?_
  all_goals first|kernel_rfl|omega|rfl
 refine fe Tryz.func111 Tryz.ntmps111 Tryz.results111 fun hwf=>?_
 have hln:l.length<=9223372036854775807:=(hwf ⟨.slice tStep,l⟩ (by simp)).1
 try simp (maxSteps:=9^9) only[go_sem]
 repeat refine AI ?_
 repeat refine AI ?_
 refine cw c1 ?_
 try simp (maxSteps:=9^9) only[go_sem]
 repeat refine AI ?_
 repeat refine AI ?_
 refine cw c2 ?_
 try simp (maxSteps:=9^9) only[go_sem]
 repeat refine AI ?_
 repeat refine AI ?_
 refine cw c3 ?_
 try simp (maxSteps:=9^9) only[go_sem]
 repeat refine AI ?_
 refine LoopG.intro _ _ _ (fun i:Nat=>⟨[(4,.ptr 0 0),(5,.ptr 1 0),(7,.ptr 2 0),(10,.ref tSpaces (spsD s) 0),(26,.sl tStep l),(27,.sc (.int .i64 l.length)),(28,.sc (.int .i64 i))],[(0,.box (cel tScene s)),(1,.box (cel tStep (plcS p l i))),(2,.box (cel tStep q))]⟩) (fun i=>i<=l.length/\ckGo s p l 0=ckGo s (plcS p l i) (l.drop i) i) (fun i=>l.length - i) 0 ?_ ⟨Nat.zero_le _,rfl⟩ ?_
 ·rw [show plcS p l 0=p from rfl]
  exact WK
 ·rintro i ⟨hi,hgo⟩
  try simp (maxSteps:=9^9) only[go_sem]
  refine CondW_dec (fun hA=>?_) (fun hA=>?_)
  ·have hlt:i < l.length:=by omega
   rw [ckGo_at hlt] at hgo
   have hst:=plcS_step p hlt
   have c4:=stepFaultI_fn s (plcS p l i) (nth (t:=tStep) l i) hs
   have c5:=stepped_fn (plcS p l i) (nth (t:=tStep) l i)
   by_cases h0:fltD s (plcS p l i) (nth (t:=tStep) l i)=0
   ·have d0:=decide_eq_true h0
    rw [if_pos h0] at hgo
    try simp (maxSteps:=9^9) only[go_sem]
    repeat refine AI ?_
    repeat refine AI ?_
    refine cw c4 ?_
    try simp (maxSteps:=9^9) only[go_sem]
    repeat refine AI ?_
    try simp (maxSteps:=9^9) only[go_sem,d0]
    repeat refine AI ?_
    repeat refine AI ?_
    refine cw c5 ?_
    try simp (maxSteps:=9^9) only[go_sem]
    repeat refine AI ?_
    refine LoopK.mk (i+1) ?_ ⟨by omega,hgo⟩ (by omega)
    rw [hst]
    exact WK
   ·have d0:=decide_eq_false h0
    rw [if_neg h0] at hgo
    rw [ck_3 hs hf hgo]
    try simp (maxSteps:=9^9) only[go_sem]
    repeat refine AI ?_
    repeat refine AI ?_
    refine cw c4 ?_
    try simp (maxSteps:=9^9) only[go_sem]
    repeat refine AI ?_
    try simp (maxSteps:=9^9) only[go_sem,d0]
    all_goals repeat refine AI ?_
    all_goals first|kernel_rfl|omega|rfl
  ·have hi2:i=l.length:=by omega
   rw [List.drop_of_length_le (by omega)] at hgo
   have hgo':ckGo s p l 0=none:=hgo
   rw [ck_4 hs hf hgo',show plcF p l=plcS p l i by unfold plcS; rw [List.take_of_length_le (by omega)]]
   have c6:=samePl_fn (plcS p l i) q
   by_cases hq:(plcS p l i).1=q.1/\eqb (plcS p l i).2 q.2=true
   ·rw [if_pos hq]
    rw [decide_eq_true hq.1,hq.2] at c6
    try simp (maxSteps:=9^9) only[go_sem]
    repeat refine AI ?_
    repeat refine AI ?_
    refine cw c6 ?_
    try simp (maxSteps:=9^9) only[go_sem]
    all_goals repeat refine AI ?_
    all_goals first|kernel_rfl|omega|rfl
   ·rw [if_neg hq]
    rw [show (decide ((plcS p l i).1=q.1) && eqb (plcS p l i).2 q.2)=false by
     rw [Bool.and_eq_false_iff]
     by_cases h1:(plcS p l i).1=q.1
     ·right
      cases h2:eqb (plcS p l i).2 q.2
      ·rfl
      ·exact absurd ⟨h1,h2⟩ hq
     ·exact .inl (decide_eq_false h1)] at c6
    try simp (maxSteps:=9^9) only[go_sem]
    repeat refine AI ?_
    repeat refine AI ?_
    refine cw c6 ?_
    try simp (maxSteps:=9^9) only[go_sem]
    all_goals repeat refine AI ?_
    all_goals first|kernel_rfl|omega|rfl
theorem IsMotionI_fn (s:DSc) (p:DS) (l:List DS) (q:DS):Fn Tryz.prog 71 [⟨tScene,s⟩,⟨tStep,p⟩,⟨.slice tStep,l⟩,⟨tStep,q⟩] false [⟨.bool,imB s p l q⟩]:=by
 have c1:=CheckMotionI_fn s p l q
 unfold imB
 refine fe Tryz.func71 Tryz.ntmps71 Tryz.results71 fun hwf=>?_
 try simp (maxSteps:=9^9) only[go_sem]
 repeat refine AI ?_
 repeat refine AI ?_
 refine cw c1 ?_
 try simp (maxSteps:=9^9) only[go_sem]
 all_goals repeat refine AI ?_
 all_goals first|kernel_rfl|omega|rfl
noncomputable def sdO (b:DV × DV) (p:DP):Nat->Option Rat
 | 0=>subO (rdO p.1) (some ((b.1.1:Int):Rat))
 | 1=>subO (some ((b.2.1:Int):Rat)) (rdO p.1)
 | 2=>subO (rdO p.2) (some ((b.1.2:Int):Rat))
 | _=>subO (some ((b.2.2:Int):Rat)) (rdO p.2)
noncomputable def sqO (b:DV × DV) (p:DP) (i:Nat):Option Rat:=mulO (sdO b p i) (sdO b p i)
noncomputable def lsO (b:DV × DV) (p:DP):Nat->Option Rat
 | 0=>sqO b p 0
 | i+1=>minO (lsO b p i) (sqO b p (i+1))
noncomputable def sideO (b:DV × DV) (p:DP):Option Rat:=lsO b p 3
theorem okO_sq (b:DV × DV) (p:DP) (i:Nat):okO (sqO b p i):=okO_mul _ _
theorem okO_ls (b:DV × DV) (p:DP):∀ i,okO (lsO b p i)
 | 0=>okO_sq _ _ _
 | i+1=>okO_min (okO_ls b p i) (okO_sq _ _ _)
noncomputable def bwI (l:List DV) (p q:DP):Nat->Option Rat
 | 0=>minO (tpD l p) (tpD l q)
 | i+1=>minO (bwI l p q i) (segD (ptV (nth (t:=tVec) l i)) p q)
theorem okO_bw (l:List DV) (p q:DP):∀ i,okO (bwI l p q i)
 | 0=>okO_min (okO_tpD _ _) (okO_tpD _ _)
 | i+1=>okO_min (okO_bw l p q i) (okO_segD _ _ _)
noncomputable def btwD (l:List DV) (p q:DP):Option Rat:=if segB l p q then zeroO else bwI l p q l.length
theorem okO_btw (l:List DV) (p q:DP):okO (btwD l p q):=by
 unfold btwD
 split
 ·exact okO_zero
 ·exact okO_bw _ _ _ _
noncomputable def mcI (s:DSc) (h:Int) (p q:DP):Nat->Option Rat
 | 0=>minO (sideO (boxD s h) p) (sideO (boxD s h) q)
 | i+1=>minO (mcI s h p q i) (btwD (nth (t:=.slice tVec) (arsD s h) i) p q)
theorem okO_mc (s:DSc) (h:Int) (p q:DP):∀ i,okO (mcI s h p q i)
 | 0=>okO_min (okO_ls _ _ _) (okO_ls _ _ _)
 | i+1=>okO_min (okO_mc s h p q i) (okO_btw _ _ _)
noncomputable def mcD (s:DSc) (h:Int) (p q:DP):Option Rat:=if freM s h p q then mcI s h p q (arsD s h).length else zeroO
theorem okO_mcD (s:DSc) (h:Int) (p q:DP):okO (mcD s h p q):=by
 unfold mcD
 split
 ·exact okO_mc _ _ _ _ _
 ·exact okO_zero
noncomputable def sdL (b:DV × DV) (p:DP):List DR:=[oD (sdO b p 0),oD (sdO b p 1),oD (sdO b p 2),oD (sdO b p 3)]
theorem okPt_vec {v:DV} (h:okV v=true):okPt (ptV v)=true:=by
 obtain ⟨b1,b2,b3,b4⟩:=okV_b h
 show (okR (ratI v.1) && okR (ratI v.2))=true
 rw [okR_ratI b1 b2,okR_ratI b3 b4]; rfl
set_option maxHeartbeats 4000000 in
theorem sidesOf_fn (b:DV × DV) (p:DP) (hb:BB b) (hp:okPt p=true):Fn Tryz.prog 54 [⟨tBox,b⟩,⟨tPoint,p⟩] false [⟨tRat,oD (sideO b p)⟩]:=by
 obtain ⟨p1,p2⟩:=Bool.and_eq_true_iff.1 (show (okR p.1 && okR p.2)=true from hp)
 have a0:=(ratInt_fn b.1.1).sh
 rw [show ratI b.1.1=oD (some ((b.1.1:Int):Rat)) from ratI_eq b.1.1] at a0
 have s0:=(ratSub_fn (rdO p.1) (some ((b.1.1:Int):Rat)) (okO_rdO _) (inB3 (by omega))).sh
 rw [okR_oD p1] at s0
 have n0:nth (t:=tRat) (sdL b p) 0=oD (sdO b p 0):=rfl
 have m0:=(ratMul_fn (sdO b p 0) (sdO b p 0) (okO_sub _ _) (okO_sub _ _)).sh
 rw [show mulO (sdO b p 0) (sdO b p 0)=lsO b p 0 from rfl] at m0
 have a1:=(ratInt_fn b.2.1).sh
 rw [show ratI b.2.1=oD (some ((b.2.1:Int):Rat)) from ratI_eq b.2.1] at a1
 have s1:=(ratSub_fn (some ((b.2.1:Int):Rat)) (rdO p.1) (inB3 (by omega)) (okO_rdO _)).sh
 rw [okR_oD p1] at s1
 have n1:nth (t:=tRat) (sdL b p) 1=oD (sdO b p 1):=rfl
 have m1:=(ratMul_fn (sdO b p 1) (sdO b p 1) (okO_sub _ _) (okO_sub _ _)).sh
 rw [show mulO (sdO b p 1) (sdO b p 1)=sqO b p 1 from rfl] at m1
 have k1:=ratMin_fn (lsO b p 0) (sqO b p 1) (okO_ls _ _ _) (okO_sq _ _ _)
 rw [show minO (lsO b p 0) (sqO b p 1)=lsO b p 1 from rfl] at k1
 have a2:=(ratInt_fn b.1.2).sh
 rw [show ratI b.1.2=oD (some ((b.1.2:Int):Rat)) from ratI_eq b.1.2] at a2
 have s2:=(ratSub_fn (rdO p.2) (some ((b.1.2:Int):Rat)) (okO_rdO _) (inB3 (by omega))).sh
 rw [okR_oD p2] at s2
 have n2:nth (t:=tRat) (sdL b p) 2=oD (sdO b p 2):=rfl
 have m2:=(ratMul_fn (sdO b p 2) (sdO b p 2) (okO_sub _ _) (okO_sub _ _)).sh
 rw [show mulO (sdO b p 2) (sdO b p 2)=sqO b p 2 from rfl] at m2
 have k2:=ratMin_fn (lsO b p 1) (sqO b p 2) (okO_ls _ _ _) (okO_sq _ _ _)
 rw [show minO (lsO b p 1) (sqO b p 2)=lsO b p 2 from rfl] at k2
 have a3:=(ratInt_fn b.2.2).sh
 rw [show ratI b.2.2=oD (some ((b.2.2:Int):Rat)) from ratI_eq b.2.2] at a3
 have s3:=(ratSub_fn (some ((b.2.2:Int):Rat)) (rdO p.2) (inB3 (by omega)) (okO_rdO _)).sh
 rw [okR_oD p2] at s3
 have n3:nth (t:=tRat) (sdL b p) 3=oD (sdO b p 3):=rfl
 have m3:=(ratMul_fn (sdO b p 3) (sdO b p 3) (okO_sub _ _) (okO_sub _ _)).sh
 rw [show mulO (sdO b p 3) (sdO b p 3)=sqO b p 3 from rfl] at m3
 have k3:=ratMin_fn (lsO b p 2) (sqO b p 3) (okO_ls _ _ _) (okO_sq _ _ _)
 rw [show minO (lsO b p 2) (sqO b p 3)=lsO b p 3 from rfl] at k3
 refine fe Tryz.func54 Tryz.ntmps54 Tryz.results54 fun hwf=>?_
 try simp (maxSteps:=9^9) only[go_sem]
 repeat refine AI ?_
 repeat refine AI ?_
 refine cw a0 ?_
 try simp (maxSteps:=9^9) only[go_sem]
 repeat refine AI ?_
 repeat refine AI ?_
 refine cw s0 ?_
 try simp (maxSteps:=9^9) only[go_sem]
 repeat refine AI ?_
 repeat refine AI ?_
 refine cw a1 ?_
 try simp (maxSteps:=9^9) only[go_sem]
 repeat refine AI ?_
 repeat refine AI ?_
 refine cw s1 ?_
 try simp (maxSteps:=9^9) only[go_sem]
 repeat refine AI ?_
 repeat refine AI ?_
 refine cw a2 ?_
 try simp (maxSteps:=9^9) only[go_sem]
 repeat refine AI ?_
 repeat refine AI ?_
 refine cw s2 ?_
 try simp (maxSteps:=9^9) only[go_sem]
 repeat refine AI ?_
 repeat refine AI ?_
 refine cw a3 ?_
 try simp (maxSteps:=9^9) only[go_sem]
 repeat refine AI ?_
 repeat refine AI ?_
 refine cw s3 ?_
 try simp (maxSteps:=9^9) only[go_sem]
 repeat refine AI ?_
 refine LoopG.intro _ _ _ (fun y:Nat=>match y with|0=>⟨[(4,.ptr 2 0),(5,.ptr 3 0),(38,.row 4 0),(39,.sc (.int .i64 4)),(40,.sc (.int .i64 0))],[(2,.box [.sc (.bool false),.sc (.slice none 0 0),.sc (.slice none 0 0)]),(3,.box [.sc (.bool false),.sc (.slice none 0 0),.sc (.slice none 0 0)]),(4,.row 35 tRat 0 false (sdL b p))]⟩|1=>⟨[(4,.ptr 2 0),(5,.ptr 3 0),(38,.row 4 0),(39,.sc (.int .i64 4)),(40,.sc (.int .i64 1))],[(2,.box [.sc (.bool false),.sc (.slice none 0 0),.sc (.slice none 0 0)]),(3,.box (cel tRat (oD (lsO b p 0)))),(4,.row 35 tRat 0 false (sdL b p))]⟩|2=>⟨[(4,.ptr 2 0),(5,.ptr 3 0),(38,.row 4 0),(39,.sc (.int .i64 4)),(40,.sc (.int .i64 2))],[(2,.box [.sc (.bool false),.sc (.slice none 0 0),.sc (.slice none 0 0)]),(3,.box (cel tRat (oD (lsO b p 1)))),(4,.row 35 tRat 0 false (sdL b p))]⟩|3=>⟨[(4,.ptr 2 0),(5,.ptr 3 0),(38,.row 4 0),(39,.sc (.int .i64 4)),(40,.sc (.int .i64 3))],[(2,.box [.sc (.bool false),.sc (.slice none 0 0),.sc (.slice none 0 0)]),(3,.box (cel tRat (oD (lsO b p 2)))),(4,.row 35 tRat 0 false (sdL b p))]⟩|_=>⟨[(4,.ptr 2 0),(5,.ptr 3 0),(38,.row 4 0),(39,.sc (.int .i64 4)),(40,.sc (.int .i64 4))],[(2,.box [.sc (.bool false),.sc (.slice none 0 0),.sc (.slice none 0 0)]),(3,.box (cel tRat (oD (lsO b p 3)))),(4,.row 35 tRat 0 false (sdL b p))]⟩) (fun y=>y<=4) (fun y=>4 - y) 0 ?_ (Nat.zero_le _) ?_
 ·unfold sdL sdO
  exact WK
 ·rintro y hy
  have hlen:(sdL b p).length=4:=rfl
  obtain rfl|rfl|rfl|rfl|rfl:y=0\/y=1\/y=2\/y=3\/y=4:=by omega
  ·try simp (maxSteps:=9^9) only[go_sem,hlen]
   repeat refine AI ?_
   try simp (maxSteps:=9^9) only[go_sem,n0]
   repeat refine AI ?_
   refine cw m0 ?_
   try simp (maxSteps:=9^9) only[go_sem]
   repeat refine AI ?_
   refine LoopK.mk 1 ?_ (by omega) (by omega)
   exact WK
  ·try simp (maxSteps:=9^9) only[go_sem,hlen]
   repeat refine AI ?_
   try simp (maxSteps:=9^9) only[go_sem,n1]
   repeat refine AI ?_
   refine cw m1 ?_
   try simp (maxSteps:=9^9) only[go_sem]
   repeat refine AI ?_
   repeat refine AI ?_
   refine cw k1 ?_
   try simp (maxSteps:=9^9) only[go_sem]
   repeat refine AI ?_
   refine LoopK.mk 2 ?_ (by omega) (by omega)
   exact WK
  ·try simp (maxSteps:=9^9) only[go_sem,hlen]
   repeat refine AI ?_
   try simp (maxSteps:=9^9) only[go_sem,n2]
   repeat refine AI ?_
   refine cw m2 ?_
   try simp (maxSteps:=9^9) only[go_sem]
   repeat refine AI ?_
   repeat refine AI ?_
   refine cw k2 ?_
   try simp (maxSteps:=9^9) only[go_sem]
   repeat refine AI ?_
   refine LoopK.mk 3 ?_ (by omega) (by omega)
   exact WK
  ·try simp (maxSteps:=9^9) only[go_sem,hlen]
   repeat refine AI ?_
   try simp (maxSteps:=9^9) only[go_sem,n3]
   repeat refine AI ?_
   refine cw m3 ?_
   try simp (maxSteps:=9^9) only[go_sem]
   repeat refine AI ?_
   repeat refine AI ?_
   refine cw k3 ?_
   try simp (maxSteps:=9^9) only[go_sem]
   repeat refine AI ?_
   refine LoopK.mk 4 ?_ (by omega) (by omega)
   exact WK
  ·try simp (maxSteps:=9^9) only[go_sem,hlen]
   rw [show sideO b p=lsO b p 3 from rfl]
   try simp (maxSteps:=9^9) only[go_sem]
   all_goals repeat refine AI ?_
   all_goals first|kernel_rfl|omega|rfl
set_option maxHeartbeats 2000000 in
theorem between_fn (l:List DV) (p q:DP) (hl:polyP l) (hp:okPt p=true) (hq:okPt q=true):Fn Tryz.prog 55 [⟨.slice tVec,l⟩,⟨tPoint,p⟩,⟨tPoint,q⟩] false [⟨tRat,oD (btwD l p q)⟩]:=by
 have c1:=segmentMeets_fn l p q hl hp hq
 have hn:=hl.1.2
 unfold btwD
 cases hs:segB l p q<;>rw [hs] at c1
 ·have c2:=toPolygon_fn l p hl hp
  have c3:=toPolygon_fn l q hl hq
  have c4:=ratMin_fn (tpD l p) (tpD l q) (okO_tpD _ _) (okO_tpD _ _)
  have c5:=(pointsOf_fn l (by omega)).sh
  have hml:(l.map ptV).length=l.length:=List.length_map ..
  rw [if_neg (by decide)]
  refine fe Tryz.func55 Tryz.ntmps55 Tryz.results55 fun hwf=>?_
  try simp (maxSteps:=9^9) only[go_sem]
  repeat refine AI ?_
  repeat refine AI ?_
  refine cw c1 ?_
  try simp (maxSteps:=9^9) only[go_sem]
  repeat refine AI ?_
  repeat refine AI ?_
  refine cw c2 ?_
  try simp (maxSteps:=9^9) only[go_sem]
  repeat refine AI ?_
  repeat refine AI ?_
  refine cw c3 ?_
  try simp (maxSteps:=9^9) only[go_sem]
  repeat refine AI ?_
  repeat refine AI ?_
  refine cw c4 ?_
  try simp (maxSteps:=9^9) only[go_sem]
  repeat refine AI ?_
  repeat refine AI ?_
  refine cw c5 ?_
  try simp (maxSteps:=9^9) only[go_sem]
  repeat refine AI ?_
  refine LoopG.intro _ _ _ (fun i:Nat=>⟨[(4,.ptr 0 0),(5,.ptr 1 0),(6,.ptr 2 0),(7,.ptr 3 0),(23,.sl tPoint (l.map ptV)),(24,.sc (.int .i64 (l.map ptV).length)),(25,.sc (.int .i64 i))],[(0,.box (cel tPoint p)),(1,.box (cel tPoint q)),(2,.box [.sc (.bool false),.sc (.slice none 0 0),.sc (.slice none 0 0)]),(3,.box (cel tRat (oD (bwI l p q i))))]⟩) (fun i=>i<=l.length) (fun i=>l.length - i) 0 ?_ (Nat.zero_le _) ?_
  ·exact WK
  ·rintro i hi
   try simp (maxSteps:=9^9) only[go_sem]
   refine CondW_dec (fun hA=>?_) (fun hA=>?_)
   ·have hlt:i < l.length:=by omega
    have e:nth (t:=tPoint) (l.map ptV) i=ptV (nth (t:=tVec) l i):=by rw [nth_lt (by rw [hml]; exact hlt),nth_lt hlt,List.getElem_map]
    have c6:=(toSegment_fn (ptV (nth (t:=tVec) l i)) p q (gP_ok (okPt_vec (hl.2.1 _ (nth_mem hlt)))) (gP_ok hp) (gP_ok hq)).sh
    rw [<-e] at c6
    have c7:=ratMin_fn (bwI l p q i) (segD (nth (t:=tPoint) (l.map ptV) i) p q) (okO_bw _ _ _ _) (okO_segD _ _ _)
    rw [show minO (bwI l p q i) (segD (nth (t:=tPoint) (l.map ptV) i) p q)=bwI l p q (i+1) by rw [e]; rfl] at c7
    try simp (maxSteps:=9^9) only[go_sem]
    repeat refine AI ?_
    repeat refine AI ?_
    refine cw c6 ?_
    try simp (maxSteps:=9^9) only[go_sem]
    repeat refine AI ?_
    repeat refine AI ?_
    refine cw c7 ?_
    try simp (maxSteps:=9^9) only[go_sem]
    repeat refine AI ?_
    refine LoopK.mk (i+1) ?_ (by omega) (by omega)
    exact WK
   ·rw [show bwI l p q l.length=bwI l p q i by rw [show i=l.length by omega]]
    try simp (maxSteps:=9^9) only[go_sem]
    all_goals repeat refine AI ?_
    all_goals first|kernel_rfl|omega|rfl
 ·have c2:=(ratInt_fn 0).sh
  rw [ratI_z] at c2
  rw [if_pos rfl]
  refine fe Tryz.func55 Tryz.ntmps55 Tryz.results55 fun hwf=>?_
  try simp (maxSteps:=9^9) only[go_sem]
  repeat refine AI ?_
  repeat refine AI ?_
  refine cw c1 ?_
  try simp (maxSteps:=9^9) only[go_sem]
  repeat refine AI ?_
  repeat refine AI ?_
  refine cw c2 ?_
  try simp (maxSteps:=9^9) only[go_sem]
  all_goals repeat refine AI ?_
  all_goals first|kernel_rfl|omega|rfl
theorem frm_p {s:DSc} {h:Int} {p q:DP} (e:freM s h p q=true):opnB s h=true/\okPt p=true/\okPt q=true:=by
 unfold freM at e
 rw [Bool.and_eq_true,Bool.and_eq_true] at e
 exact ⟨(fre_opn e.1).1,(fre_opn e.1).2,(fre_opn e.2.1).2⟩
theorem mc_f {s:DSc} {h:Int} {p q:DP} (e:freM s h p q=false):mcD s h p q=zeroO:=if_neg (by rw [e]; decide)
theorem mc_t {s:DSc} {h:Int} {p q:DP} (e:freM s h p q=true):mcD s h p q=mcI s h p q (arsD s h).length:=if_pos e
set_option maxHeartbeats 2000000 in
theorem spMoveClearance_fn (s:DSc) (h:Int) (p q:DP) (hp:okPt p=true) (hq:okPt q=true):Fn Tryz.prog 25 [⟨tSpace,spcD s h⟩,⟨tPoint,p⟩,⟨tPoint,q⟩] false [⟨tRat,oD (mcD s h p q)⟩]:=by
 have c1:=isFreeMoveI_fn s h p q hp hq
 cases e:freM s h p q<;>rw [e] at c1
 ·have c2:=(ratInt_fn 0).sh
  rw [ratI_z] at c2
  rw [mc_f e]
  generalize spcD s h=X at c1 ⊢
  obtain ⟨o,b,l⟩:=X
  refine fe Tryz.func25 Tryz.ntmps25 Tryz.results25 fun hwf=>?_
  try simp (maxSteps:=9^9) only[go_sem]
  repeat refine AI ?_
  repeat refine AI ?_
  refine cw c1 ?_
  try simp (maxSteps:=9^9) only[go_sem]
  repeat refine AI ?_
  repeat refine AI ?_
  refine cw c2 ?_
  try simp (maxSteps:=9^9) only[go_sem]
  all_goals repeat refine AI ?_
  all_goals first|kernel_rfl|omega|rfl
 ·have eo:=(frm_p e).1
  have es:=opn_s eo
  have c2:=sidesOf_fn (boxD s h) p (box_b es h) hp
  have c3:=sidesOf_fn (boxD s h) q (box_b es h) hq
  have c4:=ratMin_fn (sideO (boxD s h) p) (sideO (boxD s h) q) (okO_ls _ _ _) (okO_ls _ _ _)
  rw [mc_t e]
  rw [spc_t eo] at c1 ⊢
  refine fe Tryz.func25 Tryz.ntmps25 Tryz.results25 fun hwf=>?_
  have hln:(arsD s h).length<=9223372036854775807:=(hwf ⟨tSpace,(true,boxD s h,arsD s h)⟩ (by simp)).2.2.1
  try simp (maxSteps:=9^9) only[go_sem]
  repeat refine AI ?_
  repeat refine AI ?_
  refine cw c1 ?_
  try simp (maxSteps:=9^9) only[go_sem]
  repeat refine AI ?_
  repeat refine AI ?_
  refine cw c2 ?_
  try simp (maxSteps:=9^9) only[go_sem]
  repeat refine AI ?_
  repeat refine AI ?_
  refine cw c3 ?_
  try simp (maxSteps:=9^9) only[go_sem]
  repeat refine AI ?_
  repeat refine AI ?_
  refine cw c4 ?_
  try simp (maxSteps:=9^9) only[go_sem]
  repeat refine AI ?_
  refine LoopG.intro _ _ _ (fun i:Nat=>⟨[(4,.ptr 1 0),(5,.ptr 2 0),(6,.ptr 3 0),(7,.ptr 4 0),(26,.sl (.slice tVec) (arsD s h)),(27,.sc (.int .i64 (arsD s h).length)),(28,.sc (.int .i64 i))],[(1,.box (cel tPoint p)),(2,.box (cel tPoint q)),(3,.box [.sc (.bool false),.sc (.slice none 0 0),.sc (.slice none 0 0)]),(4,.box (cel tRat (oD (mcI s h p q i))))]⟩) (fun i=>i<=(arsD s h).length) (fun i=>(arsD s h).length - i) 0 ?_ (Nat.zero_le _) ?_
  ·exact WK
  ·rintro i hi
   try simp (maxSteps:=9^9) only[go_sem]
   refine CondW_dec (fun hA=>?_) (fun hA=>?_)
   ·have hlt:i < (arsD s h).length:=by omega
    have c5:=between_fn (nth (t:=.slice tVec) (arsD s h) i) p q (ars_poly es h _ (nth_memT (t:=.slice tVec) hlt)) hp hq
    have c6:=ratMin_fn (mcI s h p q i) (btwD (nth (t:=.slice tVec) (arsD s h) i) p q) (okO_mc _ _ _ _ _) (okO_btw _ _ _)
    try simp (maxSteps:=9^9) only[go_sem]
    repeat refine AI ?_
    repeat refine AI ?_
    refine cw c5 ?_
    try simp (maxSteps:=9^9) only[go_sem]
    repeat refine AI ?_
    repeat refine AI ?_
    refine cw c6 ?_
    try simp (maxSteps:=9^9) only[go_sem]
    repeat refine AI ?_
    refine LoopK.mk (i+1) ?_ (by omega) (by omega)
    exact WK
   ·rw [show mcI s h p q (arsD s h).length=mcI s h p q i by rw [show i=(arsD s h).length by omega]]
    try simp (maxSteps:=9^9) only[go_sem]
    all_goals repeat refine AI ?_
    all_goals first|kernel_rfl|omega|rfl
theorem MoveClearanceI_fn (s:DSc) (h:Int) (p q:DP):Fn Tryz.prog 7 [⟨tScene,s⟩,⟨.int,h⟩,⟨tPoint,p⟩,⟨tPoint,q⟩] true [⟨tRat,oD (mcD s h p q)⟩]:=by
 have c1:=arePoints2_fn p q
 cases hp:okPt p && okPt q<;>rw [hp] at c1
 ·have c2:=ratInt_fn 0
  rw [ratI_z] at c2
  have e:freM s h p q=false:=by
   cases e:freM s h p q
   ·rfl
   ·have:=frm_p e
    rw [this.2.1,this.2.2] at hp
    cases hp
  rw [mc_f e]
  refine fe Tryz.func7 Tryz.ntmps7 Tryz.results7 fun hwf=>?_
  try simp (maxSteps:=9^9) only[go_sem]
  repeat refine AI ?_
  repeat refine AI ?_
  refine cw c1 ?_
  try simp (maxSteps:=9^9) only[go_sem]
  repeat refine AI ?_
  repeat refine AI ?_
  refine cw c2 ?_
  try simp (maxSteps:=9^9) only[go_sem]
  all_goals repeat refine AI ?_
  all_goals first|kernel_rfl|omega|rfl
 ·rw [Bool.and_eq_true] at hp
  have c2:=spaceOf_fn s h
  have c3:=spMoveClearance_fn s h p q hp.1 hp.2
  have c4:=ownO_fn (mcD s h p q) (okO_mcD _ _ _ _)
  refine fe Tryz.func7 Tryz.ntmps7 Tryz.results7 fun hwf=>?_
  try simp (maxSteps:=9^9) only[go_sem]
  repeat refine AI ?_
  repeat refine AI ?_
  refine cw c1 ?_
  try simp (maxSteps:=9^9) only[go_sem]
  repeat refine AI ?_
  repeat refine AI ?_
  refine cw c2 ?_
  try simp (maxSteps:=9^9) only[go_sem]
  repeat refine AI ?_
  repeat refine AI ?_
  refine cw c3 ?_
  try simp (maxSteps:=9^9) only[go_sem]
  repeat refine AI ?_
  repeat refine AI ?_
  refine cw c4 ?_
  try simp (maxSteps:=9^9) only[go_sem]
  all_goals repeat refine AI ?_
  all_goals first|kernel_rfl|omega|rfl
end Go.Proofs.YtbopoblkoainjaaGreat.DW

namespace Go.Proofs.YtbopoblkoainjaaGreat.CG
open Go.Proofs.YtbopoblkoainjaaGreat.DW Go.RowKit
def fr (D B:Int) (q:Rat):Prop:=0 < D/\∃ a:Int,(-B<=a/\a<=B)/\q * (D:Rat)=(a:Rat)
theorem fr_add {D A B:Int} {p q:Rat} (h:fr D A p) (k:fr D B q):fr D (A+B) (p+q):=by
 obtain ⟨h0,a,h1,h2⟩:=h
 obtain ⟨_,b,k1,k2⟩:=k
 refine ⟨h0,a+b,by omega,?_⟩
 rw [Rat.intCast_add,<-h2,<-k2]; grind
theorem fr_neg {D A:Int} {p:Rat} (h:fr D A p):fr D A (-p):=by
 obtain ⟨h0,a,h1,h2⟩:=h
 refine ⟨h0,-a,by omega,?_⟩
 rw [Rat.intCast_neg,<-h2]; grind
theorem fr_sub {D A B:Int} {p q:Rat} (h:fr D A p) (k:fr D B q):fr D (A+B) (p - q):=by
 rw [Rat.sub_eq_add_neg]; exact fr_add h (fr_neg k)
theorem mul_in {a b A B:Int} (h:-A<=a/\a<=A) (k:-B<=b/\b<=B):-(A * B)<=a * b/\a * b<=A * B:=by
 have h1:(a * b).natAbs<=A.toNat * B.toNat:=by
  rw [Int.natAbs_mul]
  exact Nat.mul_le_mul (by omega) (by omega)
 have h2:((A.toNat * B.toNat:Nat):Int)=A * B:=by
  rw [Int.natCast_mul,Int.toNat_of_nonneg (by omega),Int.toNat_of_nonneg (by omega)]
 omega
theorem fr_mul {D E A B:Int} {p q:Rat} (h:fr D A p) (k:fr E B q):fr (D * E) (A * B) (p * q):=by
 obtain ⟨h0,a,h1,h2⟩:=h
 obtain ⟨k0,b,k1,k2⟩:=k
 refine ⟨Int.mul_pos h0 k0,a * b,mul_in h1 k1,?_⟩
 rw [Rat.intCast_mul,Rat.intCast_mul,<-h2,<-k2]; grind
def LL:Int:=10000000000000000000000000000000000000000
def okC (q:Rat):Prop:=∃ D B,fr D B q/\D<=LL/\B<=LL
theorem ok_sm {q:Rat} (h:okC q):small q:=by
 obtain ⟨D,B,⟨h0,a,h1,h2⟩,h3,h4⟩:=h
 have e:q=_root_.mkRat a D.toNat:=by
  rw [Rat.mkRat_eq_div]
  have:((D.toNat:Nat):Rat)=((D:Int):Rat):=by
   rw [show ((D:Int):Rat)=(((D.toNat:Nat):Int):Rat) by rw [Int.toNat_of_nonneg (by omega)]]; rfl
  rw [this,<-h2]
  have hD:(D:Rat) ≠ 0:=fun e=>by
   have:D=0:=Rat.intCast_inj.1 e
   omega
  grind
 obtain ⟨m1,m2,_⟩:=mk_abs (z:=a) (n:=D.toNat) (by omega)
 have d1:=Nat.div_le_self a.natAbs (Nat.gcd a.natAbs D.toNat)
 have d2:=Nat.div_le_self D.toNat (Nat.gcd a.natAbs D.toNat)
 have hp:(10000000000000000000000000000000000000001:Nat)<=pw 24:=by decide
 unfold LL at h3 h4
 refine ⟨nl_iff.2 ?_,nl_iff.2 ?_⟩
 ·rw [e,m1]; omega
 ·rw [e,m2]; omega
theorem ok_cap {q:Rat} (h:okC q):capR q=some q:=capR_s (ok_sm h)
theorem add_s {p q:Rat} (h:okC (p+q)):addO (some p) (some q)=some (p+q):=ok_cap h
theorem mul_s {p q:Rat} (h:okC (p * q)):mulO (some p) (some q)=some (p * q):=ok_cap h
theorem sub_s {p q:Rat} (h:okC (p - q)):subO (some p) (some q)=some (p - q):=by
 rw [Rat.sub_eq_add_neg] at h ⊢
 exact ok_cap h
def co (q:Rat):Prop:=fr 4 4000 q
theorem co_int {z:Int} (h:-1000<=z/\z<=1000):co (z:Rat):=⟨by decide,z * 4,by omega,by rw [Rat.intCast_mul]⟩
theorem fr_ok {D B:Int} {q:Rat} (h:fr D B q) (h1:D<=100000000000000000000:=by decide) (h2:B<=100000000000000000000000000000:=by decide):okC q:=⟨D,B,h,by unfold LL; omega,by unfold LL; omega⟩
structure At (p:DP) (x y:Rat):Prop where
 fx:rdO p.1=some x
 fy:rdO p.2=some y
 cx:co x
 cy:co y
theorem co_sub {x y:Rat} (h:co x) (k:co y):fr 4 8000 (x - y):=fr_sub h k
theorem at_ok {p:DP} {x y:Rat} (h:At p x y):okPt p=true:=by
 unfold okPt okR
 rw [h.fx,h.fy]; rfl
theorem at_vec {v:DV} (h:okV v=true):At (ptV v) (v.1:Rat) (v.2:Rat):=by
 have h:=inB_b h
 exact ⟨rdO_ratN (by omega) (by omega),rdO_ratN (by omega) (by omega),co_int (by omega),co_int (by omega)⟩
theorem two_s {a b c d:Rat} (ha:fr 4 8000 a) (hb:fr 4 8000 b) (hc:fr 4 8000 c) (hd:fr 4 8000 d):addO (mulO (some a) (some b)) (mulO (some c) (some d))=some (a * b+c * d):=by
 have h1:=fr_mul ha hb
 have h2:=fr_mul hc hd
 rw [mul_s (fr_ok h1),mul_s (fr_ok h2),add_s (fr_ok (fr_add h1 h2))]
theorem two_d {a b c d:Rat} (ha:fr 4 8000 a) (hb:fr 4 8000 b) (hc:fr 4 8000 c) (hd:fr 4 8000 d):subO (mulO (some a) (some b)) (mulO (some c) (some d))=some (a * b - c * d):=by
 have h1:=fr_mul ha hb
 have h2:=fr_mul hc hd
 rw [mul_s (fr_ok h1),mul_s (fr_ok h2),sub_s (fr_ok (fr_sub h1 h2))]
theorem sqD_s {p a:DP} {p1 p2 a1 a2:Rat} (hp:At p p1 p2) (ha:At a a1 a2):sqD p a=some (d2 p1 p2 a1 a2):=by
 have h1:=co_sub hp.cx ha.cx
 have h2:=co_sub hp.cy ha.cy
 unfold sqD d2
 rw [hp.fx,hp.fy,ha.fx,ha.fy,sub_s (fr_ok h1),sub_s (fr_ok h2),two_s h1 h1 h2 h2]
theorem inD_s {a b c:DP} {a1 a2 b1 b2 c1 c2:Rat} (ha:At a a1 a2) (hb:At b b1 b2) (hc:At c c1 c2):inD a b c=some ((b1 - a1) * (c1 - a1)+(b2 - a2) * (c2 - a2)):=by
 have h1:=co_sub hb.cx ha.cx
 have h2:=co_sub hc.cx ha.cx
 have h3:=co_sub hb.cy ha.cy
 have h4:=co_sub hc.cy ha.cy
 unfold inD
 rw [hb.fx,hb.fy,ha.fx,ha.fy,hc.fx,hc.fy,sub_s (fr_ok h1),sub_s (fr_ok h2),sub_s (fr_ok h3),sub_s (fr_ok h4),two_s h1 h2 h3 h4]
theorem sdP_s {a b c:DP} {a1 a2 b1 b2 c1 c2:Rat} (ha:At a a1 a2) (hb:At b b1 b2) (hc:At c c1 c2):sdP a b c=cmpQ (cr a1 a2 b1 b2 c1 c2) 0:=by
 have h1:=co_sub hb.cx ha.cx
 have h2:=co_sub hc.cx ha.cx
 have h3:=co_sub hb.cy ha.cy
 have h4:=co_sub hc.cy ha.cy
 unfold sdP cr
 rw [hb.fx,hb.fy,ha.fx,ha.fy,hc.fx,hc.fy,sub_s (fr_ok h1),sub_s (fr_ok h2),sub_s (fr_ok h3),sub_s (fr_ok h4),two_d h1 h4 h3 h2]
 rfl
theorem cmp_ge {x:Rat}:0<=cmpQ x 0 ↔ 0<=x:=by unfold cmpQ; split<;>(try split)<;>grind
theorem cmp_eq {x:Rat}:cmpQ x 0=0 ↔ x=0:=by unfold cmpQ; split<;>(try split)<;>grind
theorem cmp_neg {x y:Rat} (h:x * y < 0):cmpQ x 0 * cmpQ y 0 < 0:=by
 have hx:x ≠ 0:=fun e=>by rw [e] at h; grind
 have hy:y ≠ 0:=fun e=>by rw [e] at h; grind
 by_cases c:x < 0
 ·by_cases d:y < 0
  ·have:=mul_nn (show 0<=-x by grind) (show 0<=-y by grind)
   exact absurd h (by grind)
  ·have e1:cmpQ x 0=-1:=if_pos c
   have e2:cmpQ y 0=1:=by unfold cmpQ; rw [if_neg d,if_pos (by grind)]
   rw [e1,e2]; decide
 ·by_cases d:y < 0
  ·have e1:cmpQ y 0=-1:=if_pos d
   have e2:cmpQ x 0=1:=by unfold cmpQ; rw [if_neg c,if_pos (by grind)]
   rw [e1,e2]; decide
  ·have:=mul_nn (show 0<=x by grind) (show 0<=y by grind)
   exact absurd h (by grind)
theorem max_l {p q:Rat} (h:q<=p):maxO (some p) (some q)=some p:=if_pos (by unfold cmpQ; split<;>(try split)<;>grind)
theorem max_r {p q:Rat} (h:p<=q):maxO (some p) (some q)=some q:=by
 by_cases e:p=q
 ·subst e; exact max_l h
 ·exact if_neg (by unfold cmpQ; split<;>(try split)<;>grind)
structure SgV (p1 p2 a1 a2 b1 b2 d:Rat):Prop where
 at_:∃ t:Rat,(0<=t/\t<=1)/\d=d2 p1 p2 (a1+t * (b1 - a1)) (a2+t * (b2 - a2))
 le:∀ t:Rat,0<=t->t<=1->d<=d2 p1 p2 (a1+t * (b1 - a1)) (a2+t * (b2 - a2))
theorem segD_s {p a b:DP} {p1 p2 a1 a2 b1 b2:Rat} (hp:At p p1 p2) (ha:At a a1 a2) (hb:At b b1 b2):∃ d,segD p a b=some d/\SgV p1 p2 a1 a2 b1 b2 d:=by
 unfold segD
 by_cases e:eqb a b=true
 ·rw [if_pos e]
  have e:=eqb_iff.1 e
  subst e
  have e1:b1=a1:=Option.some.inj (hb.fx.symm.trans ha.fx)
  have e2:b2=a2:=Option.some.inj (hb.fy.symm.trans ha.fy)
  subst e1 e2
  refine ⟨_,sqD_s hp ha,⟨0,⟨by grind,by grind⟩,by unfold d2; grind⟩,fun t _ _=>?_⟩
  rw [show b1+t * (b1 - b1)=b1 by grind,show b2+t * (b2 - b2)=b2 by grind]
  exact Rat.le_refl
 ·rw [if_neg e]
  have hne:d2 a1 a2 b1 b2 ≠ 0:=fun e0=>e (eqb_iff.2 (sqD_zero (at_ok ha) (at_ok hb) (by rw [sqD_s ha hb,e0])))
  have k1:=co_sub ha.cx hb.cx
  have k2:=co_sub ha.cy hb.cy
  have hS:fr 16 128000000 (d2 a1 a2 b1 b2):=fr_add (fr_mul k1 k1) (fr_mul k2 k2)
  have j1:=co_sub hp.cx ha.cx
  have j2:=co_sub hp.cy ha.cy
  have l1:=co_sub hb.cx ha.cx
  have l2:=co_sub hb.cy ha.cy
  have hI:fr 16 128000000 ((p1 - a1) * (b1 - a1)+(p2 - a2) * (b2 - a2)):=fr_add (fr_mul j1 l1) (fr_mul j2 l2)
  have hSp:0 < d2 a1 a2 b1 b2:=by
   have:=sq_nn (a1 - b1)
   have:=sq_nn (a2 - b2)
   unfold d2 at hne ⊢
   grind
  obtain ⟨T,hT⟩:=quo ((p1 - a1) * (b1 - a1)+(p2 - a2) * (b2 - a2)) hSp
  have hTv:((p1 - a1) * (b1 - a1)+(p2 - a2) * (b2 - a2)) / d2 a1 a2 b1 b2=T:=by grind
  obtain ⟨_,S,S1,S2⟩:=hS
  obtain ⟨_,I,I1,I2⟩:=hI
  have Sp:0 < S:=by
   have h:(0:Rat) < ((S:Int):Rat):=by
    rw [<-S2]
    exact Rat.mul_pos hSp (by decide)
   exact Rat.intCast_pos.1 h
  have fT:fr S 128000000 T:=⟨Sp,I,I1,by rw [<-S2,<-I2]; grind⟩
  have f1:fr S 128000000 1:=⟨Sp,S,by omega,by grind⟩
  have f0:fr S 128000000 0:=⟨Sp,0,by omega,by grind⟩
  have ok1:okC T:=fr_ok fT (by omega) (by decide)
  have htD:∃ t,tD p a b=some t/\fr S 128000000 t/\((T < 0/\t=0)\/(1 < T/\t=1)\/(0<=T/\T<=1/\t=T)):=by
   unfold tD
   rw [inD_s ha hp hb,sqD_s ha hb,divO_s hne,hTv,ok_cap ok1]
   by_cases c:T < 0
   ·rw [show maxO zeroO (some T)=some 0 from max_l (Rat.le_of_lt c),show minO oneO (some 0)=some 0 from minO_ge (by decide)]
    exact ⟨0,rfl,f0,.inl ⟨c,rfl⟩⟩
   ·rw [show maxO zeroO (some T)=some T from max_r (Rat.not_lt.1 c)]
    by_cases c1:1 < T
    ·rw [show minO oneO (some T)=some 1 from minO_le (Rat.le_of_lt c1)]
     exact ⟨1,rfl,f1,.inr (.inl ⟨c1,rfl⟩)⟩
    ·rw [show minO oneO (some T)=some T from minO_ge (Rat.not_lt.1 c1)]
     exact ⟨T,rfl,fT,.inr (.inr ⟨Rat.not_lt.1 c,Rat.not_lt.1 c1,rfl⟩)⟩
  obtain ⟨t,et,ft,ht⟩:=htD
  have tr:0<=t/\t<=1:=by rcases ht with ⟨_,rfl⟩|⟨_,rfl⟩|⟨_,_,rfl⟩<;>constructor<;>grind
  have up:∀ {x:Rat},co x->fr (S * 4) 512000000000 x:=by
   rintro x ⟨_,z,z1,z2⟩
   refine ⟨by omega,S * z,?_,by rw [Rat.intCast_mul,Rat.intCast_mul,<-z2]; grind⟩
   have:=mul_in (A:=128000000) (B:=4000) (a:=S) (b:=z) (by omega) (by omega)
   omega
  have m1:=fr_mul ft l1
  have m2:=fr_mul ft l2
  have n1:=fr_add (up ha.cx) m1
  have n2:=fr_add (up ha.cy) m2
  have hS4:S * 4<=512000000:=by omega
  have g1:okC (t * (b1 - a1)):=fr_ok m1 (by omega) (by decide)
  have g2:okC (t * (b2 - a2)):=fr_ok m2 (by omega) (by decide)
  have g3:okC (a1+t * (b1 - a1)):=fr_ok n1 (by omega) (by decide)
  have g4:okC (a2+t * (b2 - a2)):=fr_ok n2 (by omega) (by decide)
  have q1:=fr_sub (up hp.cx) n1
  have q2:=fr_sub (up hp.cy) n2
  have r1:=fr_mul q1 q1
  have r2:=fr_mul q2 q2
  have hSS:S * 4 * (S * 4)<=512000000 * 512000000:=(mul_in (A:=512000000) (B:=512000000) (by omega) (by omega)).2
  rw [et]
  refine ⟨d2 p1 p2 (a1+t * (b1 - a1)) (a2+t * (b2 - a2)),?_,⟨t,tr,rfl⟩,fun x x0 x1=>?_⟩
  ·unfold sqD nearD d2
   simp only
   rw [ha.fx,ha.fy,hb.fx,hb.fy,hp.fx,hp.fy,sub_s (fr_ok l1),sub_s (fr_ok l2),mul_s g1,mul_s g2,add_s g3,add_s g4,
    show oD (some (a1+t * (b1 - a1)))=ratD (a1+t * (b1 - a1)) from rfl,show oD (some (a2+t * (b2 - a2)))=ratD (a2+t * (b2 - a2)) from rfl,rdO_ratD (ok_sm g3),rdO_ratD (ok_sm g4),
    sub_s (fr_ok q1 (by omega) (by decide)),sub_s (fr_ok q2 (by omega) (by decide)),mul_s (fr_ok r1 (by omega) (by decide)),mul_s (fr_ok r2 (by omega) (by decide)),add_s (fr_ok (fr_add r1 r2) (by omega) (by decide))]
  ·have:=near (w1:=p1 - a1) (w2:=p2 - a2) (v1:=b1 - a1) (v2:=b2 - a2) (T:=T) (t:=t) (x:=x) (by unfold d2 at hSp; grind) (by rw [<-hT]; unfold d2; grind) ht x0 x1
   unfold d2
   grind
end Go.Proofs.YtbopoblkoainjaaGreat.CG

namespace Go.Proofs.YtbopoblkoainjaaGreat.CG
open Go.Proofs.YtbopoblkoainjaaGreat.DW Go.RowKit
theorem le_eq {a b:Rat} (h:a=b):a<=b:=h ▸ Rat.le_refl
theorem min_s (a b:Rat):∃ d,minO (some a) (some b)=some d/\d<=a/\d<=b/\(d=a\/d=b):=by
 by_cases h:a<=b
 ·exact ⟨a,minO_le h,Rat.le_refl,h,.inl rfl⟩
 ·exact ⟨b,minO_ge (Rat.le_of_lt (Rat.not_le.1 h)),Rat.le_of_lt (Rat.not_le.1 h),Rat.le_refl,.inr rfl⟩
def cX (l:List DV) (i:Nat):Rat:=((nth (t:=tVec) l i).1:Rat)
def cY (l:List DV) (i:Nat):Rat:=((nth (t:=tVec) l i).2:Rat)
def nx (l:List DV) (i:Nat):Nat:=(nxt l.length i).toNat
def Ed (l:List DV) (i:Nat) (x y:Rat):Rat:=cr (cX l i) (cY l i) (cX l (nx l i)) (cY l (nx l i)) x y
def eX (l:List DV) (i:Nat) (t:Rat):Rat:=cX l i+t * (cX l (nx l i) - cX l i)
def eY (l:List DV) (i:Nat) (t:Rat):Rat:=cY l i+t * (cY l (nx l i) - cY l i)
def In (l:List DV) (x y:Rat):Prop:=∀ i,i < l.length->0<=Ed l i x y
theorem at_c {l:List DV} (hl:polyP l) {i:Nat} (h:i < l.length):At (ptV (nth (t:=tVec) l i)) (cX l i) (cY l i):=at_vec (hl.2.1 _ (nth_mem h))
theorem nx_lt {l:List DV} (hl:polyP l) (i:Nat):nx l i < l.length:=by
 have h1:=hl.1.1
 have h2:=nxt_rng (n:=l.length) (i:=i) (by omega)
 unfold nx; omega
theorem min0 {a b:Int}:0<=min a b ↔ 0<=a/\0<=b:=by omega
theorem cnt_ge {l:List DV} (hl:polyP l) {p:DP} {x y:Rat} (hp:At p x y):∀ i,i<=l.length->(0<=cntI l p i ↔ ∀ j,j < i->0<=Ed l j x y)
 | 0,_=>by
  constructor
  ·intro _ j hj; exact absurd hj (Nat.not_lt_zero _)
  ·intro _; exact (by decide:(0:Int)<=1)
 | i+1,hi=>by
  have ih:=cnt_ge hl hp i (by omega)
  have e:sdP (ptV (nth (t:=tVec) l i)) (ptV (nth (t:=tVec) l (nxt l.length i).toNat)) p=cmpQ (Ed l i x y) 0:=sdP_s (at_c hl (by omega)) (at_c hl (nx_lt hl i)) hp
  rw [cntI,e,min0,ih,cmp_ge]
  constructor
  ·rintro ⟨h1,h2⟩ j hj
   by_cases c:j=i
   ·rw [c]; exact h2
   ·exact h1 j (by omega)
  ·intro h
   exact ⟨fun j hj=>h j (by omega),h i (by omega)⟩
def dE (l:List DV) (x y:Rat) (i:Nat) (t:Rat):Rat:=d2 x y (eX l i t) (eY l i t)
def un (t:Rat):Prop:=0<=t/\t<=1
theorem edO_s {l:List DV} (hl:polyP l) {p:DP} {x y:Rat} (hp:At p x y) {i:Nat} (hi:i < l.length):∃ d,edO l p i=some d/\(∃ t,un t/\d=dE l x y i t)/\∀ t,un t->d<=dE l x y i t:=by
 obtain ⟨d,e,h1,h2⟩:=segD_s hp (at_c hl hi) (at_c hl (nx_lt hl i))
 exact ⟨d,e,h1,fun t ht=>h2 t ht.1 ht.2⟩
theorem leS_s {l:List DV} (hl:polyP l) {p:DP} {x y:Rat} (hp:At p x y):∀ i,i<=l.length->∃ d,leS l p i=some d/\(∃ j t,j < l.length/\un t/\d=dE l x y j t)/\∀ j,j < i->∀ t,un t->d<=dE l x y j t
 | 0,_=>by
  have h3:=hl.1.1
  obtain ⟨d,e,⟨t,h1,h2⟩,_⟩:=edO_s hl hp (i:=0) (by omega)
  exact ⟨d,e,⟨0,t,by omega,h1,h2⟩,fun j hj=>absurd hj (Nat.not_lt_zero _)⟩
 | i+1,hi=>by
  obtain ⟨a,ea,ha1,ha2⟩:=leS_s hl hp i (by omega)
  obtain ⟨b,eb,⟨t,hb1,hb2⟩,hb3⟩:=edO_s hl hp (i:=i) (by omega)
  obtain ⟨d,ed,h1,h2,h3⟩:=min_s a b
  refine ⟨d,by rw [leS,ea,eb,ed],?_,fun j hj t ht=>?_⟩
  ·rcases h3 with rfl|rfl
   ·exact ha1
   ·exact ⟨i,t,by omega,hb1,hb2⟩
  ·by_cases c:j=i
   ·rw [c]; exact Rat.le_trans h2 (hb3 t ht)
   ·exact Rat.le_trans h1 (ha2 j (by omega) t ht)
structure TpV (l:List DV) (x y d:Rat):Prop where
 inn:In l x y->d=0
 out:¬ In l x y->(∃ j t,j < l.length/\un t/\d=dE l x y j t)/\∀ j,j < l.length->∀ t,un t->d<=dE l x y j t
theorem tpD_s {l:List DV} (hl:polyP l) {p:DP} {x y:Rat} (hp:At p x y):∃ d,tpD l p=some d/\TpV l x y d:=by
 have hc:=cnt_ge hl hp l.length (Nat.le_refl _)
 unfold tpD
 by_cases h:0<=cntI l p l.length
 ·rw [if_pos h]
  exact ⟨0,rfl,fun _=>rfl,fun k=>absurd (hc.1 h) k⟩
 ·rw [if_neg h]
  obtain ⟨d,e,h1,h2⟩:=leS_s hl hp l.length (Nat.le_refl _)
  exact ⟨d,e,fun k=>absurd (hc.2 k) h,fun _=>⟨h1,h2⟩⟩
theorem d2_nn (x y u v:Rat):0<=d2 x y u v:=by
 have:=sq_nn (x - u)
 have:=sq_nn (y - v)
 unfold d2; grind
theorem d2_z {x y u v:Rat} (h:d2 x y u v=0):x=u/\y=v:=by
 unfold d2 at h
 obtain ⟨h1,h2⟩:=rat_sum_z (rat_sq_nn (x - u)) (rat_sq_nn (y - v)) h
 constructor
 ·rcases Rat.mul_eq_zero.1 h1 with e|e<;>grind
 ·rcases Rat.mul_eq_zero.1 h2 with e|e<;>grind
theorem tp_nn {l:List DV} {x y d:Rat} (h:TpV l x y d):0<=d:=by
 by_cases c:In l x y
 ·rw [h.inn c]; exact Rat.le_refl
 ·obtain ⟨⟨j,t,_,_,rfl⟩,_⟩:=h.out c
  exact d2_nn _ _ _ _
theorem btw_t {x a b:Rat} (h:bt x a b):btw (some x) (some a) (some b)=true:=by
 unfold btw
 rw [Bool.and_eq_true,decide_eq_true_iff,decide_eq_true_iff]
 have ge:∀ {u v:Rat},v<=u->cmpO (some u) (some v) ≥ 0:=fun {u v} h=>by
  show 0<=cmpQ u v
  unfold cmpQ; split<;>(try split)<;>grind
 have le:∀ {u v:Rat},u<=v->cmpO (some u) (some v)<=0:=fun {u v} h=>cmpQ_le.2 h
 rcases h with ⟨h1,h2⟩|⟨h1,h2⟩
 ·have h3:a<=b:=Rat.le_trans h1 h2
  rw [minO_le h3,max_r h3]
  exact ⟨ge h1,le h2⟩
 ·have h3:b<=a:=Rat.le_trans h1 h2
  rw [minO_ge h3,max_l h3]
  exact ⟨ge h1,le h2⟩
theorem span_t {p a b:DP} {p1 p2 a1 a2 b1 b2:Rat} (hp:At p p1 p2) (ha:At a a1 a2) (hb:At b b1 b2) (h1:bt p1 a1 b1) (h2:bt p2 a2 b2):spanB p a b=true:=by
 unfold spanB
 rw [hp.fx,hp.fy,ha.fx,ha.fy,hb.fx,hb.fy,btw_t h1,btw_t h2]; rfl
theorem sd_z {a b c:DP} {a1 a2 b1 b2 c1 c2:Rat} (ha:At a a1 a2) (hb:At b b1 b2) (hc:At c c1 c2) (h:cr a1 a2 b1 b2 c1 c2=0):decide (sdP a b c=0)=true:=decide_eq_true (by rw [sdP_s ha hb hc]; exact cmp_eq.2 h)
theorem or5 {a b c d e:Bool} (h:a=true\/b=true\/c=true\/d=true\/e=true):(a || b || c || d || e)=true:=by
 revert h; cases a<;>cases b<;>cases c<;>cases d<;>cases e<;>decide
theorem meet_t {p q c d:DP} {p1 p2 q1 q2 c1 c2 d1 d2 s t:Rat} (hp:At p p1 p2) (hq:At q q1 q2) (hc:At c c1 c2) (hd:At d d1 d2) (hs:un s) (ht:un t) (e1:p1+s * (q1 - p1)=c1+t * (d1 - c1)) (e2:p2+s * (q2 - p2)=c2+t * (d2 - c2)):meetB p q c d=true:=by
 unfold meetB
 refine or5 ?_
 rcases meet hs.1 hs.2 ht.1 ht.2 e1 e2 with ⟨h1,h2,h3⟩|⟨h1,h2,h3⟩|⟨h1,h2,h3⟩|⟨h1,h2,h3⟩|⟨h1,h2⟩
 ·exact .inl (by rw [sd_z hp hq hc h1,span_t hc hp hq h2 h3]; rfl)
 ·exact .inr (.inl (by rw [sd_z hp hq hd h1,span_t hd hp hq h2 h3]; rfl))
 ·exact .inr (.inr (.inl (by rw [sd_z hc hd hp h1,span_t hp hc hd h2 h3]; rfl)))
 ·exact .inr (.inr (.inr (.inl (by rw [sd_z hc hd hq h1,span_t hq hc hd h2 h3]; rfl))))
 ·refine .inr (.inr (.inr (.inr ?_)))
  rw [sdP_s hp hq hc,sdP_s hp hq hd,sdP_s hc hd hp,sdP_s hc hd hq,decide_eq_true (cmp_neg h1),decide_eq_true (cmp_neg h2)]; rfl
structure Off (l:List DV) (p1 p2 q1 q2:Rat):Prop where
 np:¬ In l p1 p2
 nq:¬ In l q1 q2
 no:∀ j,j < l.length->∀ s t,un s->un t->¬ (p1+s * (q1 - p1)=eX l j t/\p2+s * (q2 - p2)=eY l j t)
theorem seg_off {l:List DV} (hl:polyP l) {p q:DP} {p1 p2 q1 q2:Rat} (hp:At p p1 p2) (hq:At q q1 q2) (h:segB l p q=false):Off l p1 p2 q1 q2:=by
 unfold segB at h
 rw [Bool.or_eq_false_iff,Bool.or_eq_false_iff,decide_eq_false_iff_not,decide_eq_false_iff_not] at h
 obtain ⟨h1,h2,h3⟩:=h
 refine ⟨fun k=>h1 ((cnt_ge hl hp _ (Nat.le_refl _)).2 k),fun k=>h2 ((cnt_ge hl hq _ (Nat.le_refl _)).2 k),fun j hj s t hs ht e=>?_⟩
 have:=meet_t hp hq (at_c hl hj) (at_c hl (nx_lt hl j)) hs ht e.1 e.2
 have hb:¬ smAny l p q:=fun hb=>by rw [bdec_t hb] at h3; cases h3
 exact hb ⟨j,hj,this⟩
def gE (l:List DV) (p1 p2 q1 q2:Rat) (s:Rat) (j:Nat) (t:Rat):Rat:=dE l (p1+s * (q1 - p1)) (p2+s * (q2 - p2)) j t
structure BwV (l:List DV) (p1 p2 q1 q2 d:Rat):Prop where
 p:∀ j,j < l.length->∀ t,un t->d<=dE l p1 p2 j t
 q:∀ j,j < l.length->∀ t,un t->d<=dE l q1 q2 j t
 c:∀ j,j < l.length->∀ s,un s->d<=d2 (cX l j) (cY l j) (p1+s * (q1 - p1)) (p2+s * (q2 - p2))
 at_:∃ j s t,j < l.length/\un s/\un t/\d=gE l p1 p2 q1 q2 s j t
theorem d2_comm (x y u v:Rat):d2 x y u v=d2 u v x y:=by unfold d2; grind
theorem bwI_s {l:List DV} (hl:polyP l) {p q:DP} {p1 p2 q1 q2:Rat} (hp:At p p1 p2) (hq:At q q1 q2) (ho:Off l p1 p2 q1 q2) {dp:Rat} (ep:tpD l p=some dp):∀ i,i<=l.length->∃ d,bwI l p q i=some d/\d<=dp/\(∀ j,j < l.length->∀ t,un t->d<=dE l p1 p2 j t)/\(∀ j,j < l.length->∀ t,un t->d<=dE l q1 q2 j t)/\(∀ j,j < i->∀ s,un s->d<=d2 (cX l j) (cY l j) (p1+s * (q1 - p1)) (p2+s * (q2 - p2)))/\∃ j s t,j < l.length/\un s/\un t/\d=gE l p1 p2 q1 q2 s j t
 | 0,_=>by
  obtain ⟨a,ea,ha⟩:=tpD_s hl hp
  obtain ⟨b,eb,hb⟩:=tpD_s hl hq
  obtain ⟨d,ed,h1,h2,h3⟩:=min_s a b
  obtain ⟨⟨ja,ta,a1,a2,a3⟩,a4⟩:=ha.out ho.np
  obtain ⟨⟨jb,tb,b1,b2,b3⟩,b4⟩:=hb.out ho.nq
  rw [ea] at ep
  injection ep with ep
  subst ep
  refine ⟨d,by rw [bwI,ea,eb,ed],h1,fun j hj t ht=>Rat.le_trans h1 (a4 j hj t ht),fun j hj t ht=>Rat.le_trans h2 (b4 j hj t ht),fun j hj=>absurd hj (Nat.not_lt_zero _),?_⟩
  rcases h3 with rfl|rfl
  ·refine ⟨ja,0,ta,a1,⟨Rat.le_refl,by decide⟩,a2,?_⟩
   rw [a3]; unfold gE
   rw [show p1+0 * (q1 - p1)=p1 by grind,show p2+0 * (q2 - p2)=p2 by grind]
  ·refine ⟨jb,1,tb,b1,⟨by decide,Rat.le_refl⟩,b2,?_⟩
   rw [b3]; unfold gE
   rw [show p1+1 * (q1 - p1)=q1 by grind,show p2+1 * (q2 - p2)=q2 by grind]
 | i+1,hi=>by
  obtain ⟨a,ea,h0,h1,h2,h3,h4⟩:=bwI_s hl hp hq ho ep i (by omega)
  obtain ⟨b,eb,⟨s,hs,hb1⟩,hb2⟩:=segD_s (at_c hl (show i < l.length by omega)) hp hq
  obtain ⟨d,ed,k1,k2,k3⟩:=min_s a b
  refine ⟨d,by rw [bwI,ea,eb,ed],Rat.le_trans k1 h0,fun j hj t ht=>Rat.le_trans k1 (h1 j hj t ht),fun j hj t ht=>Rat.le_trans k1 (h2 j hj t ht),fun j hj s hs=>?_,?_⟩
  ·by_cases c:j=i
   ·rw [c]; exact Rat.le_trans k2 (hb2 s hs.1 hs.2)
   ·exact Rat.le_trans k1 (h3 j (by omega) s hs)
  ·rcases k3 with rfl|rfl
   ·exact h4
   ·refine ⟨i,s,0,by omega,hs,⟨Rat.le_refl,by decide⟩,?_⟩
    rw [hb1]; unfold gE dE eX eY
    rw [show cX l i+0 * (cX l (nx l i) - cX l i)=cX l i by grind,show cY l i+0 * (cY l (nx l i) - cY l i)=cY l i by grind]
    exact d2_comm _ _ _ _
theorem btwD_s {l:List DV} (hl:polyP l) {p q:DP} {p1 p2 q1 q2:Rat} (hp:At p p1 p2) (hq:At q q1 q2) (h:segB l p q=false):Off l p1 p2 q1 q2/\∃ d dp,btwD l p q=some d/\tpD l p=some dp/\d<=dp/\BwV l p1 p2 q1 q2 d:=by
 have ho:=seg_off hl hp hq h
 obtain ⟨dp,ep,_⟩:=tpD_s hl hp
 obtain ⟨d,e,h0,h1,h2,h3,h4⟩:=bwI_s hl hp hq ho ep l.length (Nat.le_refl _)
 refine ⟨ho,d,dp,?_,ep,h0,h1,h2,h3,h4⟩
 unfold btwD
 rw [h]; exact e
theorem bw_pos {l:List DV} {p1 p2 q1 q2 d:Rat} (ho:Off l p1 p2 q1 q2) (h:BwV l p1 p2 q1 q2 d):0 < d:=by
 obtain ⟨j,s,t,h1,h2,h3,rfl⟩:=h.at_
 have hn:=d2_nn (p1+s * (q1 - p1)) (p2+s * (q2 - p2)) (eX l j t) (eY l j t)
 have hz:gE l p1 p2 q1 q2 s j t ≠ 0:=fun e=>ho.no j h1 s t h2 h3 (d2_z e)
 unfold gE dE at hz ⊢
 grind
theorem nxt_s {n i:Nat} (h:i < n):(nxt n i).toNat=if i+1 < n then i+1 else 0:=by
 unfold nxt
 split
 ·rw [Int.emod_eq_of_lt (by omega) (by omega)]; omega
 ·rw [show (i:Int)+1=n by omega,Int.emod_self]; rfl
theorem cr_trn (a b c:DV):cr (a.1:Rat) (a.2:Rat) (b.1:Rat) (b.2:Rat) (c.1:Rat) (c.2:Rat)=((trn a b c:Int):Rat):=by
 unfold cr trn
 rw [Rat.intCast_sub,Rat.intCast_mul,Rat.intCast_mul,Rat.intCast_sub,Rat.intCast_sub,Rat.intCast_sub,Rat.intCast_sub]
theorem cvx {l:List DV} (hl:polyP l) {i:Nat} (hi:i < l.length):0 < cr (cX l i) (cY l i) (cX l (nx l i)) (cY l (nx l i)) (cX l (nx l (nx l i))) (cY l (nx l (nx l i))):=by
 have h3:=hl.1.1
 have h1:=nx_lt hl i
 have h2:=nx_lt hl (nx l i)
 have e1:=nxt_s hi
 have e2:=nxt_s h1
 have hr:=nxt_rng (n:=l.length) (i:=i) (by omega)
 unfold cX cY
 rw [cr_trn]
 refine Rat.intCast_pos.2 (hl.2.2 i (nx l (nx l i)) hi h2 ?_ ?_)
 ·unfold nx at *
  generalize (nxt l.length (nxt l.length i).toNat).toNat=B at *
  generalize nxt l.length i=A at *
  split at e1<;>split at e2<;>omega
 ·unfold nx at *
  generalize (nxt l.length (nxt l.length i).toNat).toNat=B at *
  generalize nxt l.length i=A at *
  split at e1<;>split at e2<;>omega
theorem prv {l:List DV} {i:Nat} (hi:i < l.length):∃ j,j < l.length/\nx l j=i:=by
 by_cases c:i=0
 ·refine ⟨l.length - 1,by omega,?_⟩
  unfold nx
  rw [nxt_s (by omega),if_neg (by omega),c]
 ·refine ⟨i - 1,by omega,?_⟩
  unfold nx
  rw [nxt_s (by omega),if_pos (by omega)]; omega
theorem mid_out {l:List DV} (hl:polyP l) {p1 p2 q1 q2 m1 m2:Rat} (ho:Off l p1 p2 q1 q2) (e1:2 * m1=p1+q1) (e2:2 * m2=p2+q2):¬ In l m1 m2:=by
 intro hm
 obtain ⟨i,hi,s,t,hs,ht,f1,f2⟩:=leave (n:=l.length) (X:=cX l) (Y:=cY l) (nx:=nx l) (m1:=m1) (m2:=m2) (p1:=p1) (p2:=p2) (fun i _=>nx_lt hl i) (fun i hi=>prv hi) (fun i hi=>cvx hl hi) hm (by
  refine Classical.byContradiction fun hc=>ho.np fun i hi=>Rat.not_lt.1 fun h=>hc ⟨i,hi,h⟩)
 refine ho.no i hi ((1 - s) / 2) t ⟨?_,?_⟩ ht ⟨?_,?_⟩
 ·obtain ⟨a,b⟩:=hs; grind
 ·obtain ⟨a,b⟩:=hs; grind
 ·unfold eX; grind
 ·unfold eY; grind
theorem mid_far {l:List DV} (hl:polyP l) {p1 p2 q1 q2 m1 m2 d dm:Rat} (ho:Off l p1 p2 q1 q2) (e1:2 * m1=p1+q1) (e2:2 * m2=p2+q2) (h:BwV l p1 p2 q1 q2 d) (hm:TpV l m1 m2 dm):d<=dm:=by
 obtain ⟨⟨j,t,hj,ht,rfl⟩,_⟩:=hm.out (mid_out hl ho e1 e2)
 obtain ⟨s',t',hs',ht',hb,hle⟩:=seg (p1:=p1) (p2:=p2) (u1:=q1 - p1) (u2:=q2 - p2) (a1:=cX l j) (a2:=cY l j) (v1:=cX l (nx l j) - cX l j) (v2:=cY l (nx l j) - cY l j) (s:=1 / 2) (t:=t) (by grind) (by grind) ht.1 ht.2 (by
  intro s t s0 s1 t0 t1 hz
  refine ho.no j hj s t ⟨s0,s1⟩ ⟨t0,t1⟩ ⟨?_,?_⟩
  ·have:=hz.1; unfold gx at this; unfold eX; grind
  ·have:=hz.2; unfold gx at this; unfold eY; grind)
 have hmid:dE l m1 m2 j t=gx p1 (q1 - p1) (cX l j) (cX l (nx l j) - cX l j) (1 / 2) t * gx p1 (q1 - p1) (cX l j) (cX l (nx l j) - cX l j) (1 / 2) t+gx p2 (q2 - p2) (cY l j) (cY l (nx l j) - cY l j) (1 / 2) t * gx p2 (q2 - p2) (cY l j) (cY l (nx l j) - cY l j) (1 / 2) t:=by
  unfold dE d2 gx eX eY
  rw [show m1 - (cX l j+t * (cX l (nx l j) - cX l j))=p1+1 / 2 * (q1 - p1) - cX l j - t * (cX l (nx l j) - cX l j) by grind,show m2 - (cY l j+t * (cY l (nx l j) - cY l j))=p2+1 / 2 * (q2 - p2) - cY l j - t * (cY l (nx l j) - cY l j) by grind]
 rw [hmid]
 refine Rat.le_trans ?_ hle
 rcases hb with rfl|rfl|rfl|rfl
 ·refine Rat.le_trans (h.p j hj t' ht') (le_eq ?_)
  unfold dE d2 gx eX eY; grind
 ·refine Rat.le_trans (h.q j hj t' ht') (le_eq ?_)
  unfold dE d2 gx eX eY; grind
 ·refine Rat.le_trans (h.c j hj s' hs') (le_eq ?_)
  unfold d2 gx; grind
 ·refine Rat.le_trans (h.c (nx l j) (nx_lt hl j) s' hs') (le_eq ?_)
  unfold d2 gx; grind
end Go.Proofs.YtbopoblkoainjaaGreat.CG

namespace Go.Proofs.YtbopoblkoainjaaGreat.DW
open Go.RowKit
attribute [go_sem] argV
end Go.Proofs.YtbopoblkoainjaaGreat.DW

namespace Go.Proofs.YtbopoblkoainjaaGreat.DW
open Go.RowKit
end Go.Proofs.YtbopoblkoainjaaGreat.DW

namespace Go.Proofs.YtbopoblkoainjaaGreat.DW
open Go.RowKit
theorem areBig_fn (x y:DB):Fn Tryz.prog 168 [⟨tBig,x⟩,⟨tBig,y⟩] false [⟨.bool,okB x && okB y⟩]:=by
 cases hx:okB x
 ·refine fe Tryz.func168 Tryz.ntmps168 Tryz.results168 fun hwf=>?_
  try simp (maxSteps:=9^9) only[go_sem]
  repeat refine AI ?_
  refine cw (implBigIntOk_fn x) ?_
  try simp (maxSteps:=9^9) only[go_sem]
  try simp (maxSteps:=9^9) only[go_sem,hx]
 ·refine fe Tryz.func168 Tryz.ntmps168 Tryz.results168 fun hwf=>?_
  try simp (maxSteps:=9^9) only[go_sem]
  repeat refine AI ?_
  refine cw (implBigIntOk_fn x) ?_
  try simp (maxSteps:=9^9) only[go_sem]
  try simp (maxSteps:=9^9) only[go_sem,hx]
  repeat refine AI ?_
  refine cw (implBigIntOk_fn y) ?_
  try simp (maxSteps:=9^9) only[go_sem]
theorem nl_1 {n:Nat} (h:n < 1000000000):nl n<=1:=by
 have:=nl_small (n:=n) h
 exact this
theorem bigD_pos {d:Int} (hd:0<=d):bigD d=(false,natL d.toNat):=by
 show (decide (d < 0),natL d.natAbs)=_
 rw [decide_eq_false (by omega),show d.natAbs=d.toNat by omega]
theorem mk_div {n d:Int} (hd:1<=d):_root_.mkRat n d.toNat=(n:Rat) / (d:Rat):=by
 rw [Rat.mkRat_eq_div]
 have:((d.toNat:Nat):Rat)=((d:Int):Rat):=by
  have h:((d.toNat:Nat):Int)=d:=by omega
  rw [<-h]; rfl
 rw [this]
theorem neq_f (b:Bool):(!(b == false))=b:=by cases b<;>rfl
theorem RatOfI_fn (n d:Int) (hn:n.natAbs < 1000000000) (hd:1<=d/\d < 1000000000):Fn Tryz.prog 104 [⟨.int,n⟩,⟨.int,d⟩] true [⟨tRat,oD (capR ((n:Rat) / (d:Rat)))⟩]:=by
 have h1:=nl_1 hn
 have h2:=nl_1 (show d.toNat < 1000000000 by omega)
 have hm:=ratMake_end n d.toNat (by omega) (by omega) (by omega)
 rw [mk_div hd.1] at hm
 have c1:=bigOf_fn d
 rw [bigD_pos (by omega)] at c1
 have ok1:okB (bigD n)=true:=okB_bigD (by omega)
 have ok2:okB (false,natL d.toNat)=true:=by rw [<-bigD_pos (by omega)]; exact okB_bigD (by rw [show d.natAbs=d.toNat by omega]; omega)
 have ca:=areBig_fn (bigD n) (false,natL d.toNat)
 rw [ok1,ok2] at ca
 have hl:¬ ((nl d.toNat:Int)=0):=fun h=>by have:=nl_eq_zero.1 (show nl d.toNat=0 by omega); omega
 have hM:Fn Tryz.prog 144 [⟨tBig,bigD n⟩,⟨tBig,(false,natL d.toNat)⟩] true [⟨tRat,oD (capR ((n:Rat) / (d:Rat)))⟩]:=by
  have cb:=bigMake_to (s:=!(decide (n < 0) == false)) (n:=n.natAbs) (z:=n) (by rw [neq_f]; exact sgn_bigD n)
  refine fe Tryz.func144 Tryz.ntmps144 Tryz.results144 fun hwf=>?_
  try simp (maxSteps:=9^9) only[go_sem]
  repeat refine AI ?_
  refine cw ca ?_
  try simp (maxSteps:=9^9) only[go_sem]
  try simp (maxSteps:=9^9) only[go_sem,hl]
  repeat refine AI ?_
  repeat refine AI ?_
  refine cw cb ?_
  try simp (maxSteps:=9^9) only[go_sem]
  repeat refine AI ?_
  refine cw hm ?_
  try simp (maxSteps:=9^9) only[go_sem]
  all_goals repeat refine AI ?_
  all_goals first|kernel_rfl|omega|rfl
 refine fe Tryz.func104 Tryz.ntmps104 Tryz.results104 fun hwf=>?_
 try simp (maxSteps:=9^9) only[go_sem]
 repeat refine AI ?_
 refine cw (bigOf_fn n) ?_
 try simp (maxSteps:=9^9) only[go_sem]
 repeat refine AI ?_
 refine cw c1 ?_
 try simp (maxSteps:=9^9) only[go_sem]
 repeat refine AI ?_
 refine cw hM ?_
 try simp (maxSteps:=9^9) only[go_sem]
theorem RatOfS_fn (n d:Int) (hn:n.natAbs < 1000000000) (hd:1<=d/\d < 1000000000):Fn Tryz.prog 46 [⟨.int,n⟩,⟨.int,d⟩] true [⟨tRat,oD (capR ((n:Rat) / (d:Rat)))⟩]:=by
 have h1:=nl_1 hn
 have h2:=nl_1 (show d.toNat < 1000000000 by omega)
 have c1:=BigIntOf_fn d
 rw [bigD_pos (by omega)] at c1
 have ok1:okB (bigD n)=true:=okB_bigD (by omega)
 have ok2:okB (false,natL d.toNat)=true:=by rw [<-bigD_pos (by omega)]; exact okB_bigD (by rw [show d.natAbs=d.toNat by omega]; omega)
 have o1:=specBigIntOk_fn (bigD n)
 have o2:=specBigIntOk_fn (false,natL d.toNat)
 rw [ok1] at o1
 rw [ok2] at o2
 have hM:Fn Tryz.prog 88 [⟨tBig,bigD n⟩,⟨tBig,(false,natL d.toNat)⟩] true [⟨tRat,oD (capR ((n:Rat) / (d:Rat)))⟩]:=by
  have cl:=l04Low_fn (!(decide (n < 0) == false)) n.natAbs d.toNat (by omega) (by omega) (by omega)
  rw [neq_f,sgn_bigD,mk_div hd.1,<-neq_f (decide (n < 0))] at cl
  refine fe Tryz.func88 Tryz.ntmps88 Tryz.results88 fun hwf=>?_
  try simp (maxSteps:=9^9) only[go_sem]
  repeat refine AI ?_
  refine cw o1 ?_
  try simp (maxSteps:=9^9) only[go_sem]
  repeat refine AI ?_
  refine cw o2 ?_
  try simp (maxSteps:=9^9) only[go_sem]
  repeat refine AI ?_
  repeat refine AI ?_
  refine cw cl ?_
  try simp (maxSteps:=9^9) only[go_sem]
 refine fe Tryz.func46 Tryz.ntmps46 Tryz.results46 fun hwf=>?_
 try simp (maxSteps:=9^9) only[go_sem]
 repeat refine AI ?_
 refine cw (BigIntOf_fn n) ?_
 try simp (maxSteps:=9^9) only[go_sem]
 repeat refine AI ?_
 refine cw c1 ?_
 try simp (maxSteps:=9^9) only[go_sem]
 repeat refine AI ?_
 refine cw hM ?_
 try simp (maxSteps:=9^9) only[go_sem]
theorem areRats_fn (r s:DR):Fn Tryz.prog 28 [⟨tRat,r⟩,⟨tRat,s⟩] false [⟨.bool,okR r && okR s⟩]:=by
 cases hr:okR r
 ·refine fe Tryz.func28 Tryz.ntmps28 Tryz.results28 fun hwf=>?_
  try simp (maxSteps:=9^9) only[go_sem]
  repeat refine AI ?_
  refine cw (implRatOk_fn r) ?_
  try simp (maxSteps:=9^9) only[go_sem]
  try simp (maxSteps:=9^9) only[go_sem,hr]
 ·refine fe Tryz.func28 Tryz.ntmps28 Tryz.results28 fun hwf=>?_
  try simp (maxSteps:=9^9) only[go_sem]
  repeat refine AI ?_
  refine cw (implRatOk_fn r) ?_
  try simp (maxSteps:=9^9) only[go_sem]
  try simp (maxSteps:=9^9) only[go_sem,hr]
  repeat refine AI ?_
  refine cw (implRatOk_fn s) ?_
  try simp (maxSteps:=9^9) only[go_sem]
theorem RatSignI_fn (x:Option Rat) (hx:okO x):Fn Tryz.prog 8 [⟨tRat,oD x⟩] false [⟨.int,sgnO x⟩]:=by
 have ca:=implRatOk_fn (oD x)
 have e1:okR (oD x)=x.isSome:=by unfold okR; rw [rdO_oD hx]
 rw [e1] at ca
 cases x with
 | none =>
  refine fe Tryz.func8 Tryz.ntmps8 Tryz.results8 fun hwf=>?_
  try simp (maxSteps:=9^9) only[go_sem]
  repeat refine AI ?_
  refine cw ca ?_
  try simp (maxSteps:=9^9) only[go_sem]
  all_goals repeat refine AI ?_
  all_goals first|kernel_rfl|omega|rfl
 | some p =>
  have cm:=ratSign_fn (some p)
  refine fe Tryz.func8 Tryz.ntmps8 Tryz.results8 fun hwf=>?_
  try simp (maxSteps:=9^9) only[go_sem]
  repeat refine AI ?_
  refine cw ca ?_
  try simp (maxSteps:=9^9) only[go_sem]
  repeat refine AI ?_
  refine cw cm ?_
  try simp (maxSteps:=9^9) only[go_sem]
  all_goals repeat refine AI ?_
  all_goals first|kernel_rfl|omega|rfl
end Go.Proofs.YtbopoblkoainjaaGreat.DW

namespace Go.Proofs.YtbopoblkoainjaaGreat
open Go.RowKit Go.Lib
end Go.Proofs.YtbopoblkoainjaaGreat
namespace Go.Proofs.YtbopoblkoainjaaGreat.DW
open Go.RowKit
end Go.Proofs.YtbopoblkoainjaaGreat.DW

namespace Go.Proofs.YtbopoblkoainjaaGreat.DW
open Go.RowKit
theorem afterAll_fn (p:DS) (l:List DS):Fn Tryz.prog 72 [⟨tStep,p⟩,⟨.slice tStep,l⟩,⟨.int,l.length⟩] false [⟨tStep,plcF p l⟩]:=by
 have h:=after_fn p l l.length
 rw [show clip (l.length:Int) l.length=l.length by unfold clip; omega,show plcS p l l.length=plcF p l by unfold plcS; rw [List.take_length]] at h
 exact h
theorem RatCmpI_fn (x y:Option Rat) (hx:okO x) (hy:okO y):Fn Tryz.prog 10 [⟨tRat,oD x⟩,⟨tRat,oD y⟩] false [⟨.int,cmpO x y⟩]:=by
 have ca:=areRats_fn (oD x) (oD y)
 have e1:okR (oD x)=x.isSome:=by unfold okR; rw [rdO_oD hx]
 have e2:okR (oD y)=y.isSome:=by unfold okR; rw [rdO_oD hy]
 rw [e1,e2] at ca
 have cm:=ratCmp_fn x y hx hy
 by_cases h:(x.isSome && y.isSome)=true
 ·rw [h] at ca
  refine fe Tryz.func10 Tryz.ntmps10 Tryz.results10 fun hwf=>?_
  try simp (maxSteps:=9^9) only[go_sem]
  repeat refine AI ?_
  refine cw ca ?_
  try simp (maxSteps:=9^9) only[go_sem]
  repeat refine AI ?_
  refine cw cm ?_
  try simp (maxSteps:=9^9) only[go_sem]
  all_goals repeat refine AI ?_
  all_goals first|kernel_rfl|omega|rfl
 ·have h':(x.isSome && y.isSome)=false:=by simpa using h
  rw [h'] at ca
  have e:cmpO x y=0:=by
   cases x with
   | none=>rfl
   | some p=>cases y with
    | none=>rfl
    | some q=>cases h'
  rw [e]
  refine fe Tryz.func10 Tryz.ntmps10 Tryz.results10 fun hwf=>?_
  try simp (maxSteps:=9^9) only[go_sem]
  repeat refine AI ?_
  refine cw ca ?_
  try simp (maxSteps:=9^9) only[go_sem]
  all_goals repeat refine AI ?_
  all_goals first|kernel_rfl|omega|rfl
noncomputable def halfO:Option Rat:=capR (((1:Int):Rat) / ((2:Int):Rat))
theorem okO_half:okO halfO:=okO_cap _
theorem ratHalf_fn (x:Option Rat) (hx:okO x):Fn Tryz.prog 64 [⟨tRat,oD x⟩] true [⟨tRat,oD (mulO x halfO)⟩]:=by
 have c1:Fn Tryz.prog 104 [⟨.int,1⟩,⟨.int,2⟩] true [⟨tRat,oD halfO⟩]:=RatOfI_fn 1 2 (by decide) (by decide)
 have c2:=ratMul_fn x halfO hx okO_half
 refine fe Tryz.func64 Tryz.ntmps64 Tryz.results64 fun hwf=>?_
 try simp (maxSteps:=9^9) only[go_sem]
 repeat refine AI ?_
 refine cw c1 ?_
 try simp (maxSteps:=9^9) only[go_sem]
 repeat refine AI ?_
 refine cw c2 ?_
 try simp (maxSteps:=9^9) only[go_sem]
 all_goals repeat refine AI ?_
 all_goals first|kernel_rfl|omega|rfl
noncomputable def mdX (x y:Option Rat):Option Rat:=mulO (addO x y) halfO
noncomputable def mdD (p q:DP):DP:=(oD (mdX (rdO p.1) (rdO q.1)),oD (mdX (rdO p.2) (rdO q.2)))
theorem middleOf_fn (p q:DP) (hp:okPt p=true) (hq:okPt q=true) (h:((mdX (rdO p.1) (rdO q.1)).isSome && (mdX (rdO p.2) (rdO q.2)).isSome)=true):Fn Tryz.prog 31 [⟨tPoint,p⟩,⟨tPoint,q⟩] true [⟨tPoint,mdD p q⟩]:=by
 have c1:=ratAdd_fn (rdO p.1) (rdO q.1) (okO_rdO _) (okO_rdO _)
 have c2:=ratAdd_fn (rdO p.2) (rdO q.2) (okO_rdO _) (okO_rdO _)
 rw [gP_1 (gP_ok hp),gP_1 (gP_ok hq)] at c1
 rw [gP_2 (gP_ok hp),gP_2 (gP_ok hq)] at c2
 have c3:=ratHalf_fn _ (okO_add (rdO p.1) (rdO q.1))
 have c4:=ratHalf_fn _ (okO_add (rdO p.2) (rdO q.2))
 have c5:=pointOr_yes _ _ h
 unfold mdD
 unfold mdX at c5 ⊢
 refine fe Tryz.func31 Tryz.ntmps31 Tryz.results31 fun hwf=>?_
 try simp (maxSteps:=9^9) only[go_sem]
 repeat refine AI ?_
 refine cw c1 ?_
 try simp (maxSteps:=9^9) only[go_sem]
 repeat refine AI ?_
 refine cw c3 ?_
 try simp (maxSteps:=9^9) only[go_sem]
 repeat refine AI ?_
 refine cw c2 ?_
 try simp (maxSteps:=9^9) only[go_sem]
 repeat refine AI ?_
 refine cw c4 ?_
 try simp (maxSteps:=9^9) only[go_sem]
 repeat refine AI ?_
 refine CallW.s (c5) ?_
 try simp (maxSteps:=9^9) only[go_sem]
 all_goals repeat refine AI ?_
 all_goals first|kernel_rfl|omega|rfl
theorem MiddleOf_fn (p q:DP) (hp:okPt p=true) (hq:okPt q=true) (h:((mdX (rdO p.1) (rdO q.1)).isSome && (mdX (rdO p.2) (rdO q.2)).isSome)=true):Fn Tryz.prog 12 [⟨tPoint,p⟩,⟨tPoint,q⟩] true [⟨tPoint,mdD p q⟩]:=by
 have c1:=arePoints2_fn p q
 rw [hp,hq] at c1
 have c2:=middleOf_fn p q hp hq h
 refine fe Tryz.func12 Tryz.ntmps12 Tryz.results12 fun hwf=>?_
 try simp (maxSteps:=9^9) only[go_sem]
 repeat refine AI ?_
 repeat refine AI ?_
 refine cw c1 ?_
 try simp (maxSteps:=9^9) only[go_sem]
 repeat refine AI ?_
 repeat refine AI ?_
 refine cw c2 ?_
 try simp (maxSteps:=9^9) only[go_sem]
 all_goals repeat refine AI ?_
 all_goals first|kernel_rfl|omega|rfl
theorem IsFreeMoveI_fn (s:DSc) (h:Int) (p q:DP) (hp:okPt p=true) (hq:okPt q=true):Fn Tryz.prog 9 [⟨tScene,s⟩,⟨.int,h⟩,⟨tPoint,p⟩,⟨tPoint,q⟩] false [⟨.bool,freM s h p q⟩]:=by
 have c1:=arePoints2_fn p q
 rw [hp,hq] at c1
 have c2:=spaceOf_fn s h
 have c3:=isFreeMoveI_fn s h p q hp hq
 refine fe Tryz.func9 Tryz.ntmps9 Tryz.results9 fun hwf=>?_
 try simp (maxSteps:=9^9) only[go_sem]
 repeat refine AI ?_
 repeat refine AI ?_
 refine cw c1 ?_
 try simp (maxSteps:=9^9) only[go_sem]
 repeat refine AI ?_
 repeat refine AI ?_
 refine cw c2 ?_
 try simp (maxSteps:=9^9) only[go_sem]
 repeat refine AI ?_
 repeat refine AI ?_
 refine cw c3 ?_
 try simp (maxSteps:=9^9) only[go_sem]
 repeat refine AI ?_
 all_goals repeat refine AI ?_
 all_goals first|kernel_rfl|omega|rfl
noncomputable def clI (s:DSc) (h:Int) (p:DP):Nat->Option Rat
 | 0=>sideO (boxD s h) p
 | i+1=>minO (clI s h p i) (tpD (nth (t:=.slice tVec) (arsD s h) i) p)
theorem okO_cl (s:DSc) (h:Int) (p:DP):∀ i,okO (clI s h p i)
 | 0=>okO_ls _ _ _
 | i+1=>okO_min (okO_cl s h p i) (okO_tpD _ _)
noncomputable def clD (s:DSc) (h:Int) (p:DP):Option Rat:=if freB s h p then clI s h p (arsD s h).length else zeroO
theorem okO_clD (s:DSc) (h:Int) (p:DP):okO (clD s h p):=by
 unfold clD
 split
 ·exact okO_cl _ _ _ _
 ·exact okO_zero
theorem cl_f {s:DSc} {h:Int} {p:DP} (e:freB s h p=false):clD s h p=zeroO:=if_neg (by rw [e]; decide)
theorem cl_t {s:DSc} {h:Int} {p:DP} (e:freB s h p=true):clD s h p=clI s h p (arsD s h).length:=if_pos e
set_option maxHeartbeats 2000000 in
theorem spClearance_fn (s:DSc) (h:Int) (p:DP) (hp:okPt p=true):Fn Tryz.prog 30 [⟨tSpace,spcD s h⟩,⟨tPoint,p⟩] false [⟨tRat,oD (clD s h p)⟩]:=by
 have c1:=isFreeI_fn s h p hp
 cases e:freB s h p<;>rw [e] at c1
 ·have c2:=(ratInt_fn 0).sh
  rw [ratI_z] at c2
  rw [cl_f e]
  generalize spcD s h=X at c1 ⊢
  obtain ⟨o,b,l⟩:=X
  refine fe Tryz.func30 Tryz.ntmps30 Tryz.results30 fun hwf=>?_
  try simp (maxSteps:=9^9) only[go_sem]
  repeat refine AI ?_
  repeat refine AI ?_
  refine cw c1 ?_
  try simp (maxSteps:=9^9) only[go_sem]
  repeat refine AI ?_
  repeat refine AI ?_
  refine cw c2 ?_
  try simp (maxSteps:=9^9) only[go_sem]
  all_goals repeat refine AI ?_
  all_goals first|kernel_rfl|omega|rfl
 ·have eo:=(fre_opn e).1
  have es:=opn_s eo
  have c2:=sidesOf_fn (boxD s h) p (box_b es h) hp
  rw [cl_t e]
  rw [spc_t eo] at c1 ⊢
  refine fe Tryz.func30 Tryz.ntmps30 Tryz.results30 fun hwf=>?_
  have hln:(arsD s h).length<=9223372036854775807:=(hwf ⟨tSpace,(true,boxD s h,arsD s h)⟩ (by simp)).2.2.1
  try simp (maxSteps:=9^9) only[go_sem]
  repeat refine AI ?_
  repeat refine AI ?_
  refine cw c1 ?_
  try simp (maxSteps:=9^9) only[go_sem]
  repeat refine AI ?_
  repeat refine AI ?_
  refine cw c2 ?_
  try simp (maxSteps:=9^9) only[go_sem]
  repeat refine AI ?_
  refine LoopG.intro _ _ _ (fun i:Nat=>⟨[(3,.ptr 1 0),(4,.ptr 2 0),(5,.ptr 3 0),(18,.sl (.slice tVec) (arsD s h)),(19,.sc (.int .i64 (arsD s h).length)),(20,.sc (.int .i64 i))],[(1,.box (cel tPoint p)),(2,.box [.sc (.bool false),.sc (.slice none 0 0),.sc (.slice none 0 0)]),(3,.box (cel tRat (oD (clI s h p i))))]⟩) (fun i=>i<=(arsD s h).length) (fun i=>(arsD s h).length - i) 0 ?_ (Nat.zero_le _) ?_
  ·exact WK
  ·rintro i hi
   try simp (maxSteps:=9^9) only[go_sem]
   refine CondW_dec (fun hA=>?_) (fun hA=>?_)
   ·have hlt:i < (arsD s h).length:=by omega
    have c5:=toPolygon_fn (nth (t:=.slice tVec) (arsD s h) i) p (ars_poly es h _ (nth_memT (t:=.slice tVec) hlt)) hp
    have c6:=ratMin_fn (clI s h p i) (tpD (nth (t:=.slice tVec) (arsD s h) i) p) (okO_cl _ _ _ _) (okO_tpD _ _)
    try simp (maxSteps:=9^9) only[go_sem]
    repeat refine AI ?_
    repeat refine AI ?_
    refine cw c5 ?_
    try simp (maxSteps:=9^9) only[go_sem]
    repeat refine AI ?_
    repeat refine AI ?_
    refine cw c6 ?_
    try simp (maxSteps:=9^9) only[go_sem]
    repeat refine AI ?_
    refine LoopK.mk (i+1) ?_ (by omega) (by omega)
    exact WK
   ·rw [show clI s h p (arsD s h).length=clI s h p i by rw [show i=(arsD s h).length by omega]]
    try simp (maxSteps:=9^9) only[go_sem]
    all_goals repeat refine AI ?_
    all_goals first|kernel_rfl|omega|rfl
theorem PlacementClearance_fn (s:DSc) (h:Int) (p:DP) (hp:okPt p=true):Fn Tryz.prog 11 [⟨tScene,s⟩,⟨.int,h⟩,⟨tPoint,p⟩] true [⟨tRat,oD (clD s h p)⟩]:=by
 have c1:=arePoints1_fn p
 rw [hp] at c1
 have c2:=spaceOf_fn s h
 have c3:=spClearance_fn s h p hp
 have c4:=ownO_fn (clD s h p) (okO_clD _ _ _)
 refine fe Tryz.func11 Tryz.ntmps11 Tryz.results11 fun hwf=>?_
 try simp (maxSteps:=9^9) only[go_sem]
 repeat refine AI ?_
 repeat refine AI ?_
 refine cw c1 ?_
 try simp (maxSteps:=9^9) only[go_sem]
 repeat refine AI ?_
 repeat refine AI ?_
 refine cw c2 ?_
 try simp (maxSteps:=9^9) only[go_sem]
 repeat refine AI ?_
 repeat refine AI ?_
 refine cw c3 ?_
 try simp (maxSteps:=9^9) only[go_sem]
 repeat refine AI ?_
 repeat refine AI ?_
 refine cw c4 ?_
 try simp (maxSteps:=9^9) only[go_sem]
 all_goals repeat refine AI ?_
 all_goals first|kernel_rfl|omega|rfl
noncomputable def naI (s:DSc) (h:Int) (p:DP):Nat->Int × Option Rat
 | 0=>(-1,none)
 | i+1=>if (naI s h p i).1 < 0\/cmpO (tpD (nth (t:=.slice tVec) (arsD s h) i) p) (naI s h p i).2 < 0 then ((i:Int),tpD (nth (t:=.slice tVec) (arsD s h) i) p) else naI s h p i
theorem na_ok (s:DSc) (h:Int) (p:DP):∀ i,okO (naI s h p i).2
 | 0=>okO_none
 | i+1=>by
  unfold naI
  split
  ·exact okO_tpD _ _
  ·exact na_ok s h p i
theorem na_nn (s:DSc) (h:Int) (p:DP):∀ i,0<=(naI s h p (i+1)).1
 | 0=>by unfold naI; rw [if_pos (.inl (show (-1:Int) < 0 by decide))]; exact Int.le_refl _
 | i+1=>by
  have:=na_nn s h p i
  rw [naI]
  split
  ·exact Int.natCast_nonneg _
  ·exact this
theorem na_rng (s:DSc) (h:Int) (p:DP):∀ i,-1<=(naI s h p i).1/\(naI s h p i).1 < i
 | 0=>⟨show (-1:Int)<=-1 by decide,show (-1:Int) < 0 by decide⟩
 | i+1=>by
  have:=na_rng s h p i
  rw [naI]
  split
  ·simp only; omega
  ·omega
set_option maxHeartbeats 2000000 in
theorem NearestArea_fn (s:DSc) (h:Int) (p:DP) (hs:sceneB s=true) (hh:0<=h/\h<=3) (hp:okPt p=true):Fn Tryz.prog 15 [⟨tScene,s⟩,⟨.int,h⟩,⟨tPoint,p⟩] false [⟨.int,(naI s h p (arsD s h).length).1⟩]:=by
 have c0:=(RobotAtI_fn s h hs hh).sh
 have hr:=robS_len hs h
 have c1:=arePoints1_fn p
 rw [hp] at c1
 have c2:=(BlockedAreasI_fn s h).sh
 rw [arN_t (by rw [hs,Bool.true_and]; exact decide_eq_true hh)] at c2
 have hal:(arsD s h).length<=4:=by rw [ars_len]; exact (scene_p hs).nobs
 refine fe Tryz.func15 Tryz.ntmps15 Tryz.results15 fun hwf=>?_
 try simp (maxSteps:=9^9) only[go_sem]
 repeat refine AI ?_
 repeat refine AI ?_
 refine cw c0 ?_
 try simp (maxSteps:=9^9) only[go_sem]
 repeat refine AI ?_
 refine NilW.non (by intro e0; rw [e0] at hr; simp at hr) ?_
 try simp (maxSteps:=9^9) only[go_sem]
 repeat refine AI ?_
 repeat refine AI ?_
 refine cw c1 ?_
 try simp (maxSteps:=9^9) only[go_sem]
 repeat refine AI ?_
 repeat refine AI ?_
 refine cw c2 ?_
 try simp (maxSteps:=9^9) only[go_sem]
 repeat refine AI ?_
 refine LoopG.intro _ _ _ (fun i:Nat=>⟨[(5,.ptr 1 0),(7,.sc (.int .i64 (naI s h p i).1)),(8,.ptr 3 0),(25,.sl (.slice tVec) (arsD s h)),(26,.sc (.int .i64 (arsD s h).length)),(27,.sc (.int .i64 i))],[(1,.box (cel tPoint p)),(3,.box (cel tRat (oD (naI s h p i).2)))]⟩) (fun i=>i<=(arsD s h).length) (fun i=>(arsD s h).length - i) 0 ?_ (Nat.zero_le _) ?_
 ·exact WK
 ·rintro i hi
  try simp (maxSteps:=9^9) only[go_sem]
  refine CondW_dec (fun hA=>?_) (fun hA=>?_)
  ·have hlt:i < (arsD s h).length:=by omega
   have c5:=toPolygon_fn (nth (t:=.slice tVec) (arsD s h) i) p (ars_poly hs h _ (nth_memT (t:=.slice tVec) hlt)) hp
   have c6:=ratCmp_fn (tpD (nth (t:=.slice tVec) (arsD s h) i) p) (naI s h p i).2 (okO_tpD _ _) (na_ok s h p i)
   have hrn:=na_rng s h p i
   have e:naI s h p (i+1)=if (naI s h p i).1 < 0\/cmpO (tpD (nth (t:=.slice tVec) (arsD s h) i) p) (naI s h p i).2 < 0 then ((i:Int),tpD (nth (t:=.slice tVec) (arsD s h) i) p) else naI s h p i:=rfl
   generalize naI s h p i=B at *
   by_cases d1:B.1 < 0
   ·rw [if_pos (.inl d1)] at e
    have d1':=decide_eq_true d1
    try simp (maxSteps:=9^9) only[go_sem]
    repeat refine AI ?_
    repeat refine AI ?_
    refine cw c5 ?_
    try simp (maxSteps:=9^9) only[go_sem]
    try simp (maxSteps:=9^9) only[go_sem,d1']
    repeat refine AI ?_
    refine LoopK.mk (i+1) ?_ (by omega) (by omega)
    rw [e]
    exact WK
   ·have d1':=decide_eq_false d1
    by_cases d2:cmpO (tpD (nth (t:=.slice tVec) (arsD s h) i) p) B.2 < 0
    ·rw [if_pos (.inr d2)] at e
     have d2':=decide_eq_true d2
     try simp (maxSteps:=9^9) only[go_sem]
     repeat refine AI ?_
     repeat refine AI ?_
     refine cw c5 ?_
     try simp (maxSteps:=9^9) only[go_sem]
     try simp (maxSteps:=9^9) only[go_sem,d1']
     repeat refine AI ?_
     refine cw c6 ?_
     try simp (maxSteps:=9^9) only[go_sem]
     try simp (maxSteps:=9^9) only[go_sem,d2']
     repeat refine AI ?_
     refine LoopK.mk (i+1) ?_ (by omega) (by omega)
     rw [e]
     exact WK
    ·rw [if_neg (fun h=>h.elim d1 d2)] at e
     have d2':=decide_eq_false d2
     try simp (maxSteps:=9^9) only[go_sem]
     repeat refine AI ?_
     repeat refine AI ?_
     refine cw c5 ?_
     try simp (maxSteps:=9^9) only[go_sem]
     try simp (maxSteps:=9^9) only[go_sem,d1']
     repeat refine AI ?_
     refine cw c6 ?_
     try simp (maxSteps:=9^9) only[go_sem]
     try simp (maxSteps:=9^9) only[go_sem,d2']
     repeat refine AI ?_
     refine LoopK.mk (i+1) ?_ (by omega) (by omega)
     rw [e]
     exact WK
  ·rw [show naI s h p (arsD s h).length=naI s h p i by rw [show i=(arsD s h).length by omega]]
   try simp (maxSteps:=9^9) only[go_sem]
   all_goals repeat refine AI ?_
   all_goals first|kernel_rfl|omega|rfl
theorem im_one {s:DSc} {h:Int} {p q:DP} (hs:sceneB s=true):imB s (h,p) [(0,q)] (h,q)=freM s h p q:=by
 unfold imB
 cases e1:freB s h p
 ·rw [ck_2 hs e1,show freM s h p q=false by unfold freM; rw [e1]; rfl]; rfl
 ·have ef:fltD s (h,p) (0,q)=if freM s h p q then 0 else 4:=flt_2 rfl
  cases e2:freM s h p q
  ·rw [e2] at ef
   have eg:ckGo s (h,p) [(0,q)] 0=some (4,0):=by unfold ckGo; rw [ef]; rfl
   rw [ck_3 hs e1 eg]; rfl
  ·rw [e2] at ef
   have eg:ckGo s (h,p) [(0,q)] 0=none:=by unfold ckGo; rw [ef]; rfl
   rw [ck_4 hs e1 eg,if_pos ⟨rfl,eqb_iff.2 rfl⟩]; rfl
noncomputable def moD (s:DSc) (h:Int) (p q:DP):Option Rat:=if freM s h p q then minO (clD s h p) (mcD s h p q) else zeroO
theorem okO_mo (s:DSc) (h:Int) (p q:DP):okO (moD s h p q):=by
 unfold moD
 split
 ·exact okO_min (okO_clD _ _ _) (okO_mcD _ _ _ _)
 ·exact okO_zero
def piD (p q:DP):Nat->DP
 | 0=>p
 | _+1=>q
noncomputable def lsD (s:DSc) (h:Int) (p q:DP):Nat->Option Rat
 | 0=>clD s h p
 | _+1=>minO (clD s h p) (mcD s h p q)
set_option maxHeartbeats 2000000 in
theorem MotionClearance_fn0 (s:DSc) (p q:DP) (hs:sceneB s=true) (hp:okPt p=true) (hq:okPt q=true):Fn Tryz.prog 36 [⟨tScene,s⟩,⟨tStep,(0,p)⟩,⟨.slice tStep,[(0,q)]⟩] true [⟨tRat,oD (moD s 0 p q)⟩]:=by
 have c1:Fn Tryz.prog 72 [⟨tStep,(0,p)⟩,⟨.slice tStep,[(0,q)]⟩,⟨.int,(1:Int)⟩] false [⟨tStep,(0,q)⟩]:=afterAll_fn (0,p) [(0,q)]
 have c2:=IsMotionI_fn s (0,p) [(0,q)] (0,q)
 rw [im_one hs] at c2
 unfold moD
 cases e:freM s 0 p q<;>rw [e] at c2
 ·have c3:=ratInt_fn 0
  rw [ratI_z] at c3
  rw [if_neg (by decide)]
  refine fe Tryz.func36 Tryz.ntmps36 Tryz.results36 fun hwf=>?_
  try simp (maxSteps:=9^9) only[go_sem]
  repeat refine AI ?_
  repeat refine AI ?_
  refine cw c1 ?_
  try simp (maxSteps:=9^9) only[go_sem]
  repeat refine AI ?_
  repeat refine AI ?_
  refine cw c2 ?_
  try simp (maxSteps:=9^9) only[go_sem]
  repeat refine AI ?_
  repeat refine AI ?_
  refine cw c3 ?_
  try simp (maxSteps:=9^9) only[go_sem]
  all_goals repeat refine AI ?_
  all_goals first|kernel_rfl|omega|rfl
 ·have c3:=spacesOf_fn s
  unfold spsD at c3
  have c4:=spClearance_fn s 0 p hp
  have c5:Fn Tryz.prog 25 [⟨tSpace,spcD s 0⟩,⟨tPoint,p⟩,⟨tPoint,(nth (t:=tStep) [(0,q)] 0).2⟩] false [⟨tRat,oD (mcD s 0 p q)⟩]:=spMoveClearance_fn s 0 p q hp hq
  have c6:=ratMin_fn (clD s 0 p) (mcD s 0 p q) (okO_clD _ _ _) (okO_mcD _ _ _ _)
  have c7:=ownO_fn (minO (clD s 0 p) (mcD s 0 p q)) (okO_min (okO_clD _ _ _) (okO_mcD _ _ _ _))
  have c8:Fn Tryz.prog 74 [⟨tStep,(0,p)⟩,⟨tStep,nth (t:=tStep) [(0,q)] 0⟩] false [⟨tStep,(0,q)⟩]:=stepped_fn (0,p) (0,q)
  rw [if_pos rfl]
  refine fe Tryz.func36 Tryz.ntmps36 Tryz.results36 fun hwf=>?_
  try simp (maxSteps:=9^9) only[go_sem]
  repeat refine AI ?_
  repeat refine AI ?_
  refine cw c1 ?_
  try simp (maxSteps:=9^9) only[go_sem]
  repeat refine AI ?_
  repeat refine AI ?_
  refine cw c2 ?_
  try simp (maxSteps:=9^9) only[go_sem]
  repeat refine AI ?_
  repeat refine AI ?_
  refine cw c3 ?_
  try simp (maxSteps:=9^9) only[go_sem]
  repeat refine AI ?_
  repeat refine AI ?_
  refine cw c4 ?_
  try simp (maxSteps:=9^9) only[go_sem]
  repeat refine AI ?_
  refine LoopG.intro _ _ _ (fun i:Nat=>⟨[(4,.ptr 1 0),(6,.ptr 2 0),(7,.ref tSpaces (s,(spcD s 0,(spcD s 1,(spcD s 2,spcD s 3)))) 0),(8,.ptr 3 0),(34,.sl tStep [(0,q)]),(35,.sc (.int .i64 1)),(36,.sc (.int .i64 i))],[(1,.box (cel tStep (0,piD p q i))),(2,.box [.sc (.bool false),.sc (.slice none 0 0),.sc (.slice none 0 0)]),(3,.box (cel tRat (oD (lsD s 0 p q i))))]⟩) (fun i=>i<=1) (fun i=>1 - i) 0 ?_ (Nat.zero_le _) ?_
  ·exact WK
  ·rintro i hi
   try simp (maxSteps:=9^9) only[go_sem]
   refine CondW_dec (fun hA=>?_) (fun hA=>?_)
   ·obtain rfl:i=0:=by omega
    rw [show piD p q 0=p from rfl,show lsD s 0 p q 0=clD s 0 p from rfl]
    try simp (maxSteps:=9^9) only[go_sem]
    repeat refine AI ?_
    refine CondW_dec (fun hB=>?_) (fun hB=>absurd rfl hB)
    try simp (maxSteps:=9^9) only[go_sem]
    repeat refine AI ?_
    repeat refine AI ?_
    refine cw c5 ?_
    try simp (maxSteps:=9^9) only[go_sem]
    repeat refine AI ?_
    repeat refine AI ?_
    refine cw c6 ?_
    try simp (maxSteps:=9^9) only[go_sem]
    repeat refine AI ?_
    repeat refine AI ?_
    refine cw c8 ?_
    try simp (maxSteps:=9^9) only[go_sem]
    repeat refine AI ?_
    refine LoopK.mk (0+1) ?_ (by omega) (by omega)
    rw [show piD p q (0+1)=q from rfl,show lsD s 0 p q (0+1)=minO (clD s 0 p) (mcD s 0 p q) from rfl]
    exact WK
   ·obtain rfl:i=1:=by omega
    rw [show piD p q 1=q from rfl,show lsD s 0 p q 1=minO (clD s 0 p) (mcD s 0 p q) from rfl]
    try simp (maxSteps:=9^9) only[go_sem]
    repeat refine AI ?_
    refine cw c7 ?_
    try simp (maxSteps:=9^9) only[go_sem]
    all_goals repeat refine AI ?_
    all_goals first|kernel_rfl|omega|rfl
set_option maxHeartbeats 2000000 in
theorem MotionClearance_fn1 (s:DSc) (p q:DP) (hs:sceneB s=true) (hp:okPt p=true) (hq:okPt q=true):Fn Tryz.prog 36 [⟨tScene,s⟩,⟨tStep,(1,p)⟩,⟨.slice tStep,[(0,q)]⟩] true [⟨tRat,oD (moD s 1 p q)⟩]:=by
 have c1:Fn Tryz.prog 72 [⟨tStep,(1,p)⟩,⟨.slice tStep,[(0,q)]⟩,⟨.int,(1:Int)⟩] false [⟨tStep,(1,q)⟩]:=afterAll_fn (1,p) [(0,q)]
 have c2:=IsMotionI_fn s (1,p) [(0,q)] (1,q)
 rw [im_one hs] at c2
 unfold moD
 cases e:freM s 1 p q<;>rw [e] at c2
 ·have c3:=ratInt_fn 0
  rw [ratI_z] at c3
  rw [if_neg (by decide)]
  refine fe Tryz.func36 Tryz.ntmps36 Tryz.results36 fun hwf=>?_
  try simp (maxSteps:=9^9) only[go_sem]
  repeat refine AI ?_
  repeat refine AI ?_
  refine cw c1 ?_
  try simp (maxSteps:=9^9) only[go_sem]
  repeat refine AI ?_
  repeat refine AI ?_
  refine cw c2 ?_
  try simp (maxSteps:=9^9) only[go_sem]
  repeat refine AI ?_
  repeat refine AI ?_
  refine cw c3 ?_
  try simp (maxSteps:=9^9) only[go_sem]
  all_goals repeat refine AI ?_
  all_goals first|kernel_rfl|omega|rfl
 ·have c3:=spacesOf_fn s
  unfold spsD at c3
  have c4:=spClearance_fn s 1 p hp
  have c5:Fn Tryz.prog 25 [⟨tSpace,spcD s 1⟩,⟨tPoint,p⟩,⟨tPoint,(nth (t:=tStep) [(0,q)] 0).2⟩] false [⟨tRat,oD (mcD s 1 p q)⟩]:=spMoveClearance_fn s 1 p q hp hq
  have c6:=ratMin_fn (clD s 1 p) (mcD s 1 p q) (okO_clD _ _ _) (okO_mcD _ _ _ _)
  have c7:=ownO_fn (minO (clD s 1 p) (mcD s 1 p q)) (okO_min (okO_clD _ _ _) (okO_mcD _ _ _ _))
  have c8:Fn Tryz.prog 74 [⟨tStep,(1,p)⟩,⟨tStep,nth (t:=tStep) [(0,q)] 0⟩] false [⟨tStep,(1,q)⟩]:=stepped_fn (1,p) (0,q)
  rw [if_pos rfl]
  refine fe Tryz.func36 Tryz.ntmps36 Tryz.results36 fun hwf=>?_
  try simp (maxSteps:=9^9) only[go_sem]
  repeat refine AI ?_
  repeat refine AI ?_
  refine cw c1 ?_
  try simp (maxSteps:=9^9) only[go_sem]
  repeat refine AI ?_
  repeat refine AI ?_
  refine cw c2 ?_
  try simp (maxSteps:=9^9) only[go_sem]
  repeat refine AI ?_
  repeat refine AI ?_
  refine cw c3 ?_
  try simp (maxSteps:=9^9) only[go_sem]
  repeat refine AI ?_
  repeat refine AI ?_
  refine cw c4 ?_
  try simp (maxSteps:=9^9) only[go_sem]
  repeat refine AI ?_
  refine LoopG.intro _ _ _ (fun i:Nat=>⟨[(4,.ptr 1 0),(6,.ptr 2 0),(7,.ref tSpaces (s,(spcD s 0,(spcD s 1,(spcD s 2,spcD s 3)))) 0),(8,.ptr 3 0),(34,.sl tStep [(0,q)]),(35,.sc (.int .i64 1)),(36,.sc (.int .i64 i))],[(1,.box (cel tStep (1,piD p q i))),(2,.box [.sc (.bool false),.sc (.slice none 0 0),.sc (.slice none 0 0)]),(3,.box (cel tRat (oD (lsD s 1 p q i))))]⟩) (fun i=>i<=1) (fun i=>1 - i) 0 ?_ (Nat.zero_le _) ?_
  ·exact WK
  ·rintro i hi
   try simp (maxSteps:=9^9) only[go_sem]
   refine CondW_dec (fun hA=>?_) (fun hA=>?_)
   ·obtain rfl:i=0:=by omega
    rw [show piD p q 0=p from rfl,show lsD s 1 p q 0=clD s 1 p from rfl]
    try simp (maxSteps:=9^9) only[go_sem]
    repeat refine AI ?_
    refine CondW_dec (fun hB=>?_) (fun hB=>absurd rfl hB)
    try simp (maxSteps:=9^9) only[go_sem]
    repeat refine AI ?_
    repeat refine AI ?_
    refine cw c5 ?_
    try simp (maxSteps:=9^9) only[go_sem]
    repeat refine AI ?_
    repeat refine AI ?_
    refine cw c6 ?_
    try simp (maxSteps:=9^9) only[go_sem]
    repeat refine AI ?_
    repeat refine AI ?_
    refine cw c8 ?_
    try simp (maxSteps:=9^9) only[go_sem]
    repeat refine AI ?_
    refine LoopK.mk (0+1) ?_ (by omega) (by omega)
    rw [show piD p q (0+1)=q from rfl,show lsD s 1 p q (0+1)=minO (clD s 1 p) (mcD s 1 p q) from rfl]
    exact WK
   ·obtain rfl:i=1:=by omega
    rw [show piD p q 1=q from rfl,show lsD s 1 p q 1=minO (clD s 1 p) (mcD s 1 p q) from rfl]
    try simp (maxSteps:=9^9) only[go_sem]
    repeat refine AI ?_
    refine cw c7 ?_
    try simp (maxSteps:=9^9) only[go_sem]
    all_goals repeat refine AI ?_
    all_goals first|kernel_rfl|omega|rfl
set_option maxHeartbeats 2000000 in
theorem MotionClearance_fn2 (s:DSc) (p q:DP) (hs:sceneB s=true) (hp:okPt p=true) (hq:okPt q=true):Fn Tryz.prog 36 [⟨tScene,s⟩,⟨tStep,(2,p)⟩,⟨.slice tStep,[(0,q)]⟩] true [⟨tRat,oD (moD s 2 p q)⟩]:=by
 have c1:Fn Tryz.prog 72 [⟨tStep,(2,p)⟩,⟨.slice tStep,[(0,q)]⟩,⟨.int,(1:Int)⟩] false [⟨tStep,(2,q)⟩]:=afterAll_fn (2,p) [(0,q)]
 have c2:=IsMotionI_fn s (2,p) [(0,q)] (2,q)
 rw [im_one hs] at c2
 unfold moD
 cases e:freM s 2 p q<;>rw [e] at c2
 ·have c3:=ratInt_fn 0
  rw [ratI_z] at c3
  rw [if_neg (by decide)]
  refine fe Tryz.func36 Tryz.ntmps36 Tryz.results36 fun hwf=>?_
  try simp (maxSteps:=9^9) only[go_sem]
  repeat refine AI ?_
  repeat refine AI ?_
  refine cw c1 ?_
  try simp (maxSteps:=9^9) only[go_sem]
  repeat refine AI ?_
  repeat refine AI ?_
  refine cw c2 ?_
  try simp (maxSteps:=9^9) only[go_sem]
  repeat refine AI ?_
  repeat refine AI ?_
  refine cw c3 ?_
  try simp (maxSteps:=9^9) only[go_sem]
  all_goals repeat refine AI ?_
  all_goals first|kernel_rfl|omega|rfl
 ·have c3:=spacesOf_fn s
  unfold spsD at c3
  have c4:=spClearance_fn s 2 p hp
  have c5:Fn Tryz.prog 25 [⟨tSpace,spcD s 2⟩,⟨tPoint,p⟩,⟨tPoint,(nth (t:=tStep) [(0,q)] 0).2⟩] false [⟨tRat,oD (mcD s 2 p q)⟩]:=spMoveClearance_fn s 2 p q hp hq
  have c6:=ratMin_fn (clD s 2 p) (mcD s 2 p q) (okO_clD _ _ _) (okO_mcD _ _ _ _)
  have c7:=ownO_fn (minO (clD s 2 p) (mcD s 2 p q)) (okO_min (okO_clD _ _ _) (okO_mcD _ _ _ _))
  have c8:Fn Tryz.prog 74 [⟨tStep,(2,p)⟩,⟨tStep,nth (t:=tStep) [(0,q)] 0⟩] false [⟨tStep,(2,q)⟩]:=stepped_fn (2,p) (0,q)
  rw [if_pos rfl]
  refine fe Tryz.func36 Tryz.ntmps36 Tryz.results36 fun hwf=>?_
  try simp (maxSteps:=9^9) only[go_sem]
  repeat refine AI ?_
  repeat refine AI ?_
  refine cw c1 ?_
  try simp (maxSteps:=9^9) only[go_sem]
  repeat refine AI ?_
  repeat refine AI ?_
  refine cw c2 ?_
  try simp (maxSteps:=9^9) only[go_sem]
  repeat refine AI ?_
  repeat refine AI ?_
  refine cw c3 ?_
  try simp (maxSteps:=9^9) only[go_sem]
  repeat refine AI ?_
  repeat refine AI ?_
  refine cw c4 ?_
  try simp (maxSteps:=9^9) only[go_sem]
  repeat refine AI ?_
  refine LoopG.intro _ _ _ (fun i:Nat=>⟨[(4,.ptr 1 0),(6,.ptr 2 0),(7,.ref tSpaces (s,(spcD s 0,(spcD s 1,(spcD s 2,spcD s 3)))) 0),(8,.ptr 3 0),(34,.sl tStep [(0,q)]),(35,.sc (.int .i64 1)),(36,.sc (.int .i64 i))],[(1,.box (cel tStep (2,piD p q i))),(2,.box [.sc (.bool false),.sc (.slice none 0 0),.sc (.slice none 0 0)]),(3,.box (cel tRat (oD (lsD s 2 p q i))))]⟩) (fun i=>i<=1) (fun i=>1 - i) 0 ?_ (Nat.zero_le _) ?_
  ·exact WK
  ·rintro i hi
   try simp (maxSteps:=9^9) only[go_sem]
   refine CondW_dec (fun hA=>?_) (fun hA=>?_)
   ·obtain rfl:i=0:=by omega
    rw [show piD p q 0=p from rfl,show lsD s 2 p q 0=clD s 2 p from rfl]
    try simp (maxSteps:=9^9) only[go_sem]
    repeat refine AI ?_
    refine CondW_dec (fun hB=>?_) (fun hB=>absurd rfl hB)
    try simp (maxSteps:=9^9) only[go_sem]
    repeat refine AI ?_
    repeat refine AI ?_
    refine cw c5 ?_
    try simp (maxSteps:=9^9) only[go_sem]
    repeat refine AI ?_
    repeat refine AI ?_
    refine cw c6 ?_
    try simp (maxSteps:=9^9) only[go_sem]
    repeat refine AI ?_
    repeat refine AI ?_
    refine cw c8 ?_
    try simp (maxSteps:=9^9) only[go_sem]
    repeat refine AI ?_
    refine LoopK.mk (0+1) ?_ (by omega) (by omega)
    rw [show piD p q (0+1)=q from rfl,show lsD s 2 p q (0+1)=minO (clD s 2 p) (mcD s 2 p q) from rfl]
    exact WK
   ·obtain rfl:i=1:=by omega
    rw [show piD p q 1=q from rfl,show lsD s 2 p q 1=minO (clD s 2 p) (mcD s 2 p q) from rfl]
    try simp (maxSteps:=9^9) only[go_sem]
    repeat refine AI ?_
    refine cw c7 ?_
    try simp (maxSteps:=9^9) only[go_sem]
    all_goals repeat refine AI ?_
    all_goals first|kernel_rfl|omega|rfl
set_option maxHeartbeats 2000000 in
theorem MotionClearance_fn3 (s:DSc) (p q:DP) (hs:sceneB s=true) (hp:okPt p=true) (hq:okPt q=true):Fn Tryz.prog 36 [⟨tScene,s⟩,⟨tStep,(3,p)⟩,⟨.slice tStep,[(0,q)]⟩] true [⟨tRat,oD (moD s 3 p q)⟩]:=by
 have c1:Fn Tryz.prog 72 [⟨tStep,(3,p)⟩,⟨.slice tStep,[(0,q)]⟩,⟨.int,(1:Int)⟩] false [⟨tStep,(3,q)⟩]:=afterAll_fn (3,p) [(0,q)]
 have c2:=IsMotionI_fn s (3,p) [(0,q)] (3,q)
 rw [im_one hs] at c2
 unfold moD
 cases e:freM s 3 p q<;>rw [e] at c2
 ·have c3:=ratInt_fn 0
  rw [ratI_z] at c3
  rw [if_neg (by decide)]
  refine fe Tryz.func36 Tryz.ntmps36 Tryz.results36 fun hwf=>?_
  try simp (maxSteps:=9^9) only[go_sem]
  repeat refine AI ?_
  repeat refine AI ?_
  refine cw c1 ?_
  try simp (maxSteps:=9^9) only[go_sem]
  repeat refine AI ?_
  repeat refine AI ?_
  refine cw c2 ?_
  try simp (maxSteps:=9^9) only[go_sem]
  repeat refine AI ?_
  repeat refine AI ?_
  refine cw c3 ?_
  try simp (maxSteps:=9^9) only[go_sem]
  all_goals repeat refine AI ?_
  all_goals first|kernel_rfl|omega|rfl
 ·have c3:=spacesOf_fn s
  unfold spsD at c3
  have c4:=spClearance_fn s 3 p hp
  have c5:Fn Tryz.prog 25 [⟨tSpace,spcD s 3⟩,⟨tPoint,p⟩,⟨tPoint,(nth (t:=tStep) [(0,q)] 0).2⟩] false [⟨tRat,oD (mcD s 3 p q)⟩]:=spMoveClearance_fn s 3 p q hp hq
  have c6:=ratMin_fn (clD s 3 p) (mcD s 3 p q) (okO_clD _ _ _) (okO_mcD _ _ _ _)
  have c7:=ownO_fn (minO (clD s 3 p) (mcD s 3 p q)) (okO_min (okO_clD _ _ _) (okO_mcD _ _ _ _))
  have c8:Fn Tryz.prog 74 [⟨tStep,(3,p)⟩,⟨tStep,nth (t:=tStep) [(0,q)] 0⟩] false [⟨tStep,(3,q)⟩]:=stepped_fn (3,p) (0,q)
  rw [if_pos rfl]
  refine fe Tryz.func36 Tryz.ntmps36 Tryz.results36 fun hwf=>?_
  try simp (maxSteps:=9^9) only[go_sem]
  repeat refine AI ?_
  repeat refine AI ?_
  refine cw c1 ?_
  try simp (maxSteps:=9^9) only[go_sem]
  repeat refine AI ?_
  repeat refine AI ?_
  refine cw c2 ?_
  try simp (maxSteps:=9^9) only[go_sem]
  repeat refine AI ?_
  repeat refine AI ?_
  refine cw c3 ?_
  try simp (maxSteps:=9^9) only[go_sem]
  repeat refine AI ?_
  repeat refine AI ?_
  refine cw c4 ?_
  try simp (maxSteps:=9^9) only[go_sem]
  repeat refine AI ?_
  refine LoopG.intro _ _ _ (fun i:Nat=>⟨[(4,.ptr 1 0),(6,.ptr 2 0),(7,.ref tSpaces (s,(spcD s 0,(spcD s 1,(spcD s 2,spcD s 3)))) 0),(8,.ptr 3 0),(34,.sl tStep [(0,q)]),(35,.sc (.int .i64 1)),(36,.sc (.int .i64 i))],[(1,.box (cel tStep (3,piD p q i))),(2,.box [.sc (.bool false),.sc (.slice none 0 0),.sc (.slice none 0 0)]),(3,.box (cel tRat (oD (lsD s 3 p q i))))]⟩) (fun i=>i<=1) (fun i=>1 - i) 0 ?_ (Nat.zero_le _) ?_
  ·exact WK
  ·rintro i hi
   try simp (maxSteps:=9^9) only[go_sem]
   refine CondW_dec (fun hA=>?_) (fun hA=>?_)
   ·obtain rfl:i=0:=by omega
    rw [show piD p q 0=p from rfl,show lsD s 3 p q 0=clD s 3 p from rfl]
    try simp (maxSteps:=9^9) only[go_sem]
    repeat refine AI ?_
    refine CondW_dec (fun hB=>?_) (fun hB=>absurd rfl hB)
    try simp (maxSteps:=9^9) only[go_sem]
    repeat refine AI ?_
    repeat refine AI ?_
    refine cw c5 ?_
    try simp (maxSteps:=9^9) only[go_sem]
    repeat refine AI ?_
    repeat refine AI ?_
    refine cw c6 ?_
    try simp (maxSteps:=9^9) only[go_sem]
    repeat refine AI ?_
    repeat refine AI ?_
    refine cw c8 ?_
    try simp (maxSteps:=9^9) only[go_sem]
    repeat refine AI ?_
    refine LoopK.mk (0+1) ?_ (by omega) (by omega)
    rw [show piD p q (0+1)=q from rfl,show lsD s 3 p q (0+1)=minO (clD s 3 p) (mcD s 3 p q) from rfl]
    exact WK
   ·obtain rfl:i=1:=by omega
    rw [show piD p q 1=q from rfl,show lsD s 3 p q 1=minO (clD s 3 p) (mcD s 3 p q) from rfl]
    try simp (maxSteps:=9^9) only[go_sem]
    repeat refine AI ?_
    refine cw c7 ?_
    try simp (maxSteps:=9^9) only[go_sem]
    all_goals repeat refine AI ?_
    all_goals first|kernel_rfl|omega|rfl
theorem MotionClearance_fn (s:DSc) (h:Int) (p q:DP) (hs:sceneB s=true) (hh:0<=h/\h<=3) (hp:okPt p=true) (hq:okPt q=true):Fn Tryz.prog 36 [⟨tScene,s⟩,⟨tStep,(h,p)⟩,⟨.slice tStep,[(0,q)]⟩] true [⟨tRat,oD (moD s h p q)⟩]:=by
 obtain rfl|rfl|rfl|rfl:h=0\/h=1\/h=2\/h=3:=by omega
 ·exact MotionClearance_fn0 s p q hs hp hq
 ·exact MotionClearance_fn1 s p q hs hp hq
 ·exact MotionClearance_fn2 s p q hs hp hq
 ·exact MotionClearance_fn3 s p q hs hp hq
theorem KeepsClearance_fn (s:DSc) (h:Int) (p q:DP) (hs:sceneB s=true) (hh:0<=h/\h<=3) (hp:okPt p=true) (hq:okPt q=true):Fn Tryz.prog 14 [⟨tScene,s⟩,⟨tStep,(h,p)⟩,⟨.slice tStep,[(0,q)]⟩,⟨.int,0⟩] false [⟨.bool,decide (cmpO (moD s h p q) zeroO > 0)⟩]:=by
 have c1:=MotionClearance_fn s h p q hs hh hp hq
 have c2:=ratInt_fn 0
 rw [ratI_z] at c2
 have c3:=ratCmp_fn (moD s h p q) zeroO (okO_mo _ _ _ _) okO_zero
 refine fe Tryz.func14 Tryz.ntmps14 Tryz.results14 fun hwf=>?_
 try simp (maxSteps:=9^9) only[go_sem]
 repeat refine AI ?_
 repeat refine AI ?_
 refine cw c1 ?_
 try simp (maxSteps:=9^9) only[go_sem]
 repeat refine AI ?_
 repeat refine AI ?_
 refine cw c2 ?_
 try simp (maxSteps:=9^9) only[go_sem]
 repeat refine AI ?_
 repeat refine AI ?_
 refine cw c3 ?_
 try simp (maxSteps:=9^9) only[go_sem]
 repeat refine AI ?_
 all_goals repeat refine AI ?_
 all_goals first|kernel_rfl|omega|rfl
def fit (q:Rat):Prop:=q.num.natAbs < 1000000000/\q.den < 1000000000
theorem fit_small {q:Rat} (h:fit q):small q:=by
 have h1:=nl_small h.1
 have h2:=nl_small h.2
 exact ⟨by omega,by omega⟩
theorem cap_fit {q:Rat} (h:fit q):capR q=some q:=capR_s (fit_small h)
theorem fit_int {z:Int} (h:z.natAbs < 1000000000):fit (z:Rat):=⟨h,(by decide:1 < 1000000000)⟩
theorem fit_div {z d:Int} (hz:z.natAbs < 1000000000) (hd:1<=d/\d < 1000000000):fit ((z:Rat) / (d:Rat)):=by
 have e:(z:Rat) / (d:Rat)=_root_.mkRat z d.toNat:=by
  rw [Rat.mkRat_eq_div]
  have h:((d.toNat:Nat):Int)=d:=by omega
  have:((d.toNat:Nat):Rat)=((d:Int):Rat):=by rw [<-h]; rfl
  rw [this]
 rw [e]
 obtain ⟨h1,h2,_⟩:=mk_abs (z:=z) (n:=d.toNat) (by omega)
 unfold fit
 rw [h1,h2]
 have h3:=Nat.div_le_self z.natAbs (Nat.gcd z.natAbs d.toNat)
 have h4:=Nat.div_le_self d.toNat (Nat.gcd z.natAbs d.toNat)
 omega
theorem ok_fit {q:Rat} (h:fit q):okO (some q):=fun p hp=>by injection hp with hp; subst hp; exact fit_small h
theorem rd_fit {q:Rat} (h:fit q):rdO (ratD q)=some q:=rdO_ratD (fit_small h)
theorem add_fit {p q:Rat} (h:fit (p+q)):addO (some p) (some q)=some (p+q):=cap_fit h
section
variable {L G:Nat->Int} {n:Nat}
end
section
variable {l:List DP} {a:Int} {w:List DR} {L G:Nat->Int}
end
theorem half_fit {a:Int} (h:a.natAbs < 1000000000):fit ((a:Rat) / 2):=fit_div (d:=2) h (by decide)
theorem two_c:((2:Int):Rat)=2:=rfl
theorem one_c:((1:Int):Rat)=1:=rfl
def hp (v:Int × Int):DP:=(ratD ((v.1:Rat) / 2),ratD ((v.2:Rat) / 2))
def hpOk (v:Int × Int):Prop:=0<=v.1/\v.1<=100/\0<=v.2/\v.2<=100
section
variable {vs:List (Int × Int)} {a:Int} {lims:List Int}
end
end Go.Proofs.YtbopoblkoainjaaGreat.DW

namespace Go.Proofs.YtbopoblkoainjaaGreat.CG
open Go.Proofs.YtbopoblkoainjaaGreat.DW Go.RowKit
theorem half_c (a:Int):(a:Rat) / 2 * 2=(a:Rat):=by grind
theorem co_half {a:Int} (h:0<=a/\a<=100):co ((a:Rat) / 2):=⟨by decide,2 * a,by omega,by
 rw [Rat.intCast_mul,two_c]
 have:=half_c a
 rw [show ((4:Int):Rat)=4 from rfl]; grind⟩
theorem co_quar {a:Int} (h:0<=a/\a<=200):co ((a:Rat) / 4):=⟨by decide,a,by omega,by
 rw [show ((4:Int):Rat)=4 from rfl]; grind⟩
theorem co_small {q:Rat} (h:co q):small q:=ok_sm (fr_ok h)
theorem at_hp {u:Int × Int} (h:hpOk u):At (hp u) ((u.1:Rat) / 2) ((u.2:Rat) / 2):=by
 obtain ⟨h1,h2,h3,h4⟩:=h
 have c1:=co_half ⟨h1,h2⟩
 have c2:=co_half ⟨h3,h4⟩
 exact ⟨rdO_ratD (co_small c1),rdO_ratD (co_small c2),c1,c2⟩
theorem half_s:halfO=some ((1:Rat) / 2):=by
 unfold halfO
 rw [show ((1:Int):Rat)=1 from rfl,two_c]
 refine ok_cap (fr_ok (D:=2) (B:=1) ⟨by decide,1,by omega,?_⟩)
 rw [two_c,show ((1:Int):Rat)=1 from rfl]; grind
theorem mdX_s {a b:Int} (ha:0<=a/\a<=100) (hb:0<=b/\b<=100):mdX (some ((a:Rat) / 2)) (some ((b:Rat) / 2))=some (((a+b:Int):Rat) / 4):=by
 have c:=co_quar (a:=a+b) (by omega)
 have e:(((a:Rat) / 2)+((b:Rat) / 2)) * ((1:Rat) / 2)=((a+b:Int):Rat) / 4:=by rw [Rat.intCast_add]; grind
 unfold mdX
 rw [add_s (fr_ok (fr_add (co_half ha) (co_half hb))),half_s,mul_s (by rw [e]; exact fr_ok c),e]
theorem at_md {u v:Int × Int} (hu:hpOk u) (hv:hpOk v):At (mdD (hp u) (hp v)) (((u.1+v.1:Int):Rat) / 4) (((u.2+v.2:Int):Rat) / 4):=by
 have au:=at_hp hu
 have av:=at_hp hv
 obtain ⟨h1,h2,h3,h4⟩:=hu
 obtain ⟨k1,k2,k3,k4⟩:=hv
 have c1:=co_quar (a:=u.1+v.1) (by omega)
 have c2:=co_quar (a:=u.2+v.2) (by omega)
 unfold mdD
 rw [au.fx,au.fy,av.fx,av.fy,mdX_s ⟨h1,h2⟩ ⟨k1,k2⟩,mdX_s ⟨h3,h4⟩ ⟨k3,k4⟩]
 exact ⟨rdO_ratD (co_small c1),rdO_ratD (co_small c2),c1,c2⟩
theorem md_some {u v:Int × Int} (hu:hpOk u) (hv:hpOk v):((mdX (rdO (hp u).1) (rdO (hp v).1)).isSome && (mdX (rdO (hp u).2) (rdO (hp v).2)).isSome)=true:=by
 have au:=at_hp hu
 have av:=at_hp hv
 obtain ⟨h1,h2,h3,h4⟩:=hu
 obtain ⟨k1,k2,k3,k4⟩:=hv
 rw [au.fx,au.fy,av.fx,av.fy,mdX_s ⟨h1,h2⟩ ⟨k1,k2⟩,mdX_s ⟨h3,h4⟩ ⟨k3,k4⟩]; rfl
def sv (b:DV × DV) (x y:Rat):Nat->Rat
 | 0=>x - (b.1.1:Rat)
 | 1=>(b.2.1:Rat) - x
 | 2=>y - (b.1.2:Rat)
 | _=>(b.2.2:Rat) - y
section
variable {b:DV × DV} (hb:BB b)
include hb
theorem sv_fr {x y:Rat} (hx:co x) (hy:co y) (i:Nat):fr 4 8000 (sv b x y i):=by
 obtain ⟨⟨⟨a1,a2⟩,a3,a4⟩,⟨a5,a6⟩,a7,a8⟩:=hb
 rcases i with _|_|_|i
 ·exact co_sub hx (co_int (by omega))
 ·exact co_sub (co_int (by omega)) hx
 ·exact co_sub hy (co_int (by omega))
 ·exact co_sub (co_int (by omega)) hy
theorem sdO_s {p:DP} {x y:Rat} (hp:At p x y) (i:Nat):sdO b p i=some (sv b x y i):=by
 have h:=fr_ok (sv_fr hb hp.cx hp.cy i)
 rcases i with _|_|_|i
 ·show subO (rdO p.1) _=_; rw [hp.fx]; exact sub_s h
 ·show subO _ (rdO p.1)=_; rw [hp.fx]; exact sub_s h
 ·show subO (rdO p.2) _=_; rw [hp.fy]; exact sub_s h
 ·show subO _ (rdO p.2)=_; rw [hp.fy]; exact sub_s h
theorem sqO_s {p:DP} {x y:Rat} (hp:At p x y) (i:Nat):sqO b p i=some (sv b x y i * sv b x y i):=by
 have h:=sv_fr hb hp.cx hp.cy i
 unfold sqO
 rw [sdO_s hb hp i,mul_s (fr_ok (fr_mul h h))]
theorem lsO_s {p:DP} {x y:Rat} (hp:At p x y):∀ i,∃ d,lsO b p i=some d/\(∀ j,j<=i->d<=sv b x y j * sv b x y j)/\∃ j,j<=i/\d=sv b x y j * sv b x y j
 | 0=>⟨_,sqO_s hb hp 0,fun j hj=>by rw [show j=0 by omega]; exact Rat.le_refl,0,Nat.le_refl _,rfl⟩
 | i+1=>by
  obtain ⟨a,ea,h1,j,h2,h3⟩:=lsO_s hp i
  obtain ⟨d,ed,k1,k2,k3⟩:=min_s a (sv b x y (i+1) * sv b x y (i+1))
  refine ⟨d,by rw [lsO,ea,sqO_s hb hp (i+1),ed],fun j hj=>?_,?_⟩
  ·by_cases c:j=i+1
   ·rw [c]; exact k2
   ·exact Rat.le_trans k1 (h1 j (by omega))
  ·rcases k3 with rfl|rfl
   ·exact ⟨j,by omega,h3⟩
   ·exact ⟨i+1,Nat.le_refl _,rfl⟩
theorem inBx_iff {p:DP} {x y:Rat} (hp:At p x y):inBx b p=true ↔ ∀ i,i<=3->0 < sv b x y i:=by
 have gt:∀ {u v:Rat},cmpO (some u) (some v) > 0 ↔ v < u:=fun {u v}=>by
  show cmpQ u v > 0 ↔ _
  unfold cmpQ
  split
  ·rename_i h; constructor
   ·intro h; exact absurd h (by decide)
   ·intro h2; exact absurd h2 (by grind)
  ·split
   ·rename_i h1 h2; exact ⟨fun _=>h2,fun _=>by decide⟩
   ·rename_i h1 h2; exact ⟨fun h=>absurd h (by decide),fun h=>absurd h h2⟩
 have lt:∀ {u v:Rat},cmpO (some u) (some v) < 0 ↔ u < v:=fun {u v}=>by
  show cmpQ u v < 0 ↔ _
  unfold cmpQ
  split
  ·rename_i h; exact ⟨fun _=>h,fun _=>by decide⟩
  ·split
   ·rename_i h1 h2; exact ⟨fun h=>absurd h (by decide),fun h=>absurd h h1⟩
   ·rename_i h1 h2; exact ⟨fun h=>absurd h (by decide),fun h=>absurd h h1⟩
 unfold inBx
 rw [hp.fx,hp.fy]
 simp only [Bool.and_eq_true,decide_eq_true_iff]
 rw [gt,lt,gt,lt]
 constructor
 ·rintro ⟨h1,h2,h3,h4⟩ i hi
  rcases i with _|_|_|i
  ·show 0 < x - _; grind
  ·show 0 < _ - x; grind
  ·show 0 < y - _; grind
  ·show 0 < _ - y; grind
 ·intro h
  have h0:0 < x - (b.1.1:Rat):=h 0 (by omega)
  have h1:0 < (b.2.1:Rat) - x:=h 1 (by omega)
  have h2:0 < y - (b.1.2:Rat):=h 2 (by omega)
  have h3:0 < (b.2.2:Rat) - y:=h 3 (by omega)
  refine ⟨?_,?_,?_,?_⟩<;>grind
omit hb in
theorem sv_mid {p1 p2 q1 q2 m1 m2:Rat} (e1:2 * m1=p1+q1) (e2:2 * m2=p2+q2) (i:Nat):2 * sv b m1 m2 i=sv b p1 p2 i+sv b q1 q2 i:=by
 rcases i with _|_|_|i
 ·show 2 * (m1 - _)=(p1 - _)+(q1 - _); grind
 ·show 2 * (_ - m1)=(_ - p1)+(_ - q1); grind
 ·show 2 * (m2 - _)=(p2 - _)+(q2 - _); grind
 ·show 2 * (_ - m2)=(_ - p2)+(_ - q2); grind
end
theorem sq_mono {a c:Rat} (ha:0<=a) (h:a<=c):a * a<=c * c:=by
 have h1:=mul_mono ha h
 have h2:=mul_mono (y:=c) (by grind) h
 grind
theorem sq_mean {a c m d:Rat} (ha:0 < a) (hc:0 < c) (e:2 * m=a+c) (h1:d<=a * a) (h2:d<=c * c):d<=m * m:=by
 by_cases h:a<=c
 ·exact Rat.le_trans h1 (sq_mono (by grind) (by grind))
 ·exact Rat.le_trans h2 (sq_mono (by grind) (by grind))
theorem sq_pos {a:Rat} (h:0 < a):0 < a * a:=Rat.mul_pos h h
theorem fre_iff {s:DSc} {h:Int} (hs:sceneB s=true) (ho:opnB s h=true) {p:DP} {x y:Rat} (hp:At p x y):freB s h p=true ↔ (∀ i,i<=3->0 < sv (boxD s h) x y i)/\∀ l ∈ arsD s h,¬ In l x y:=by
 have hc:∀ l ∈ arsD s h,(decide (cpD l p ≥ 0)=true ↔ In l x y):=fun l hl=>by
  rw [decide_eq_true_iff,cp_dec (at_ok hp)]
  exact cnt_ge (ars_poly hs h l hl) hp _ (Nat.le_refl _)
 rw [freB_t ho (at_ok hp),Bool.and_eq_true,inBx_iff (box_b hs h) hp,Bool.not_eq_true',List.any_eq_false]
 constructor
 ·rintro ⟨h1,h2⟩
  exact ⟨h1,fun l hl k=>h2 l hl ((hc l hl).2 k)⟩
 ·rintro ⟨h1,h2⟩
  exact ⟨h1,fun l hl k=>h2 l hl ((hc l hl).1 k)⟩
theorem frm_seg {s:DSc} {h:Int} {p q:DP} (e:freM s h p q=true):freB s h p=true/\freB s h q=true/\∀ l ∈ arsD s h,segB l p q=false:=by
 obtain ⟨_,op,oq⟩:=frm_p e
 unfold freM at e
 rw [Bool.and_eq_true,Bool.and_eq_true,Bool.not_eq_true',List.any_eq_false] at e
 refine ⟨e.1,e.2.1,fun l hl=>?_⟩
 have:=e.2.2 l hl
 unfold sgmB at this
 rw [op,oq,Bool.true_and,Bool.true_and] at this
 simpa using this
theorem cl_nn {s:DSc} {h:Int} (hs:sceneB s=true) {p:DP} {x y:Rat} (hp:At p x y):∃ c,clD s h p=some c/\0<=c:=by
 have main:∀ i,i<=(arsD s h).length->∃ c,clI s h p i=some c/\0<=c:=by
  intro i
  induction i with
  | zero =>
   intro _
   obtain ⟨d,e,_,j,_,rfl⟩:=lsO_s (box_b hs h) hp 3
   exact ⟨_,e,sq_nn _⟩
  | succ i ih =>
   intro hi
   obtain ⟨c,e,h1⟩:=ih (by omega)
   obtain ⟨t,et,ht⟩:=tpD_s (ars_poly hs h _ (nth_memT (t:=.slice tVec) (l:=arsD s h) (i:=i) (by omega))) hp
   obtain ⟨d,ed,k1,k2,k3⟩:=min_s c t
   refine ⟨d,by rw [clI,e,et,ed],?_⟩
   rcases k3 with rfl|rfl
   ·exact h1
   ·exact tp_nn ht
 cases e:freB s h p
 ·exact ⟨0,cl_f e,Rat.le_refl⟩
 ·rw [cl_t e]; exact main _ (Nat.le_refl _)
theorem mc_all {s:DSc} {h:Int} (hs:sceneB s=true) {p q m:DP} {p1 p2 q1 q2 m1 m2:Rat} (hp:At p p1 p2) (hq:At q q1 q2) (hm:At m m1 m2) (e1:2 * m1=p1+q1) (e2:2 * m2=p2+q2) (e:freM s h p q=true) :
  ∃ d c k,mcD s h p q=some d/\0 < d/\clD s h p=some c/\d<=c/\clD s h m=some k/\d<=k:=by
 obtain ⟨ho,_,_⟩:=frm_p e
 obtain ⟨fp,fq,fs⟩:=frm_seg e
 have bb:=box_b hs h
 obtain ⟨ip,np⟩:=(fre_iff hs ho hp).1 fp
 obtain ⟨iq,nq⟩:=(fre_iff hs ho hq).1 fq
 have hoff:∀ l ∈ arsD s h,Off l p1 p2 q1 q2:=fun l hl=>seg_off (ars_poly hs h l hl) hp hq (fs l hl)
 have fm:freB s h m=true:=(fre_iff hs ho hm).2 ⟨fun i hi=>by
  have a:=sv_mid (b:=boxD s h) e1 e2 i
  have b:=ip i hi
  have c:=iq i hi
  grind,fun l hl=>mid_out (ars_poly hs h l hl) (hoff l hl) e1 e2⟩
 rw [mc_t e,cl_t fp,cl_t fm]
 have main:∀ i,i<=(arsD s h).length->∃ d c k,mcI s h p q i=some d/\0 < d/\clI s h p i=some c/\d<=c/\clI s h m i=some k/\d<=k:=by
  intro i
  induction i with
  | zero =>
   intro _
   obtain ⟨a,ea,a1,ja,a2,a3⟩:=lsO_s bb hp 3
   obtain ⟨c,ec,c1,jc,c2,c3⟩:=lsO_s bb hq 3
   obtain ⟨k,ek,k1,jk,k2,k3⟩:=lsO_s bb hm 3
   obtain ⟨d,ed,d1,d2,d3⟩:=min_s a c
   refine ⟨d,a,k,?_,?_,ea,d1,ek,?_⟩
   ·show minO (lsO (boxD s h) p 3) (lsO (boxD s h) q 3)=_
    rw [ea,ec,ed]
   ·rcases d3 with rfl|rfl
    ·rw [a3]; exact sq_pos (ip ja a2)
    ·rw [c3]; exact sq_pos (iq jc c2)
   ·rw [k3]
    exact sq_mean (ip jk k2) (iq jk k2) (sv_mid e1 e2 jk) (Rat.le_trans d1 (a1 jk k2)) (Rat.le_trans d2 (c1 jk k2))
  | succ i ih =>
   intro hi
   obtain ⟨d,c,k,ed,d0,ec,dc,ek,dk⟩:=ih (by omega)
   have hmem:=nth_memT (t:=.slice tVec) (l:=arsD s h) (i:=i) (by omega)
   have hl:=ars_poly hs h _ hmem
   obtain ⟨ho,t,tp,et,etp,ht,hv⟩:=btwD_s hl hp hq (fs _ hmem)
   obtain ⟨tm,etm,htm⟩:=tpD_s hl hm
   have hf:=mid_far hl ho e1 e2 hv htm
   have hpos:=bw_pos ho hv
   obtain ⟨d',ed',x1,x2,x3⟩:=min_s d t
   obtain ⟨c',ec',y1,y2,y3⟩:=min_s c tp
   obtain ⟨k',ek',z1,z2,z3⟩:=min_s k tm
   refine ⟨d',c',k',by rw [mcI,ed,et,ed'],?_,by rw [clI,ec,etp,ec'],?_,by rw [clI,ek,etm,ek'],?_⟩
   ·rcases x3 with rfl|rfl
    ·exact d0
    ·exact hpos
   ·rcases y3 with rfl|rfl
    ·exact Rat.le_trans x1 dc
    ·exact Rat.le_trans x2 ht
   ·rcases z3 with rfl|rfl
    ·exact Rat.le_trans x1 dk
    ·exact Rat.le_trans x2 hf
 exact main _ (Nat.le_refl _)
theorem cmp_le {d c:Rat} (h:d<=c):¬ cmpO (some d) (some c) > 0:=by
 have:cmpQ d c<=0:=cmpQ_le.2 h
 show ¬ cmpQ d c > 0
 omega
theorem sgn_pos {d:Rat} (h:0 < d):sgnO (some d) > 0:=by
 show cmpQ d 0 > 0
 unfold cmpQ
 rw [if_neg (by grind),if_pos h]; decide
theorem sgn_zero:¬ sgnO zeroO > 0:=by
 show ¬ cmpQ _ 0 > 0
 have:cmpQ (((0:Int):Rat)) 0<=0:=cmpQ_le.2 Rat.le_refl
 omega
structure ClL (s:DSc) (h:Int) (p q m:DP):Prop where
 a:decide (sgnO (mcD s h p q) > 0)=freM s h p q
 b:¬ cmpO (mcD s h p q) (clD s h p) > 0
 c:¬ cmpO (mcD s h p q) (clD s h m) > 0
 d:okR (oD (mcD s h p q))=true
 e:decide (cmpO (moD s h p q) zeroO > 0)=freM s h p q
theorem cl_law {s:DSc} {h:Int} (hs:sceneB s=true) {u v:Int × Int} (hu:hpOk u) (hv:hpOk v):ClL s h (hp u) (hp v) (mdD (hp u) (hp v)):=by
 have ap:=at_hp hu
 have aq:=at_hp hv
 have am:=at_md hu hv
 have okd:∀ {d:Rat},mcD s h (hp u) (hp v)=some d->okR (oD (mcD s h (hp u) (hp v)))=true:=fun {d} e=>by
  unfold okR
  rw [rdO_oD (okO_mcD _ _ _ _),e]; rfl
 cases e:freM s h (hp u) (hp v)
 ·obtain ⟨c,ec,c0⟩:=cl_nn (h:=h) hs ap
  obtain ⟨k,ek,k0⟩:=cl_nn (h:=h) hs am
  have em:=mc_f e
  have emo:moD s h (hp u) (hp v)=zeroO:=by unfold moD; rw [e]; rfl
  refine ⟨?_,?_,?_,okd em,?_⟩
  ·rw [e,em]; exact decide_eq_false sgn_zero
  ·rw [em,ec]; exact cmp_le c0
  ·rw [em,ek]; exact cmp_le k0
  ·rw [e,emo]; exact decide_eq_false (cmp_le Rat.le_refl)
 ·obtain ⟨d,c,k,ed,d0,ec,dc,ek,dk⟩:=mc_all hs ap aq am (by rw [Rat.intCast_add]; grind) (by rw [Rat.intCast_add]; grind) e
  have emo:moD s h (hp u) (hp v)=some d:=by
   unfold moD
   rw [e,if_pos rfl,ec,ed,minO_ge dc]
  refine ⟨?_,?_,?_,okd ed,?_⟩
  ·rw [e,ed]; exact decide_eq_true (sgn_pos d0)
  ·rw [ed,ec]; exact cmp_le dc
  ·rw [ed,ek]; exact cmp_le dk
  ·rw [e,emo]; exact decide_eq_true (sgn_pos d0)
theorem na_law {s:DSc} {h:Int} {p:DP}:decide ((naI s h p (arsD s h).length).1 ≥ 0)=decide ((s.2.2.2.1.length:Int) > 0):=by
 have e:=ars_len s h
 rw [e]
 cases c:s.2.2.2.1.length with
 | zero=>rfl
 | succ n =>
  have:=na_nn s h p n
  rw [decide_eq_true this,decide_eq_true (by omega)]
end Go.Proofs.YtbopoblkoainjaaGreat.CG

namespace Go.Proofs.YtbopoblkoainjaaGreat.DW
open Go.RowKit
theorem andI_rng (a:Int) {m:Int} (h0:0<=m) (h1:m<=9223372036854775807):0<=andI a m/\andI a m<=m:=by
 have hle:(BitVec.ofInt 64 a &&& BitVec.ofInt 64 m).toNat<=m.toNat:=by
  rw [BitVec.toNat_and]
  refine Nat.le_trans Nat.and_le_right ?_
  rw [BitVec.toNat_ofInt]
  have h64:((2 ^ 64:Nat):Int)=18446744073709551616:=by decide
  have:m % ((2 ^ 64:Nat):Int)=m:=Int.emod_eq_of_lt h0 (by omega)
  rw [this]
  exact Nat.le_refl _
 unfold andI
 rw [wrap_I64 (by constructor<;>omega)]
 omega
def tyW:TypeId->Option Ty
 | 3=>some .int
 | 5=>some .u8
 | 22=>some (.slice .u8)
 | 84=>some tCur
 | _=>none
theorem tabOKW:TabOK Tryz.prog tyW:=by
 intro ty t h
 unfold tyW at h
 split at h
 all_goals first|cases h; done|(injection h with h; subst h; exact tyOK (by kernel_rfl) (by kernel_rfl))
attribute [go_sem] tyW
theorem wildW:wild tyW:=by
 intro ty h
 unfold tyW at h
 split at h<;>cases h
@[go_sem] theorem aBin_wild {P:Program} {lt:Nat->Option AV} {K:Eff->Prop} {op:BinOp} {ty:TypeId} {x y:Operand}:aBin P tyW lt K op ty x y=aBinX P lt K op ty x y:=if_pos wildW
def nu (l:List Int) (i:Nat):Int:=nth (t:=.u8) l i
@[go_sem] theorem nth_u8 (l:List Int) (i:Nat):@nth .u8 l i=nu l i:=(rfl)
structure Cu (code:List Int) where
 i:Nat
 h:Int
 hi:i<=code.length
 hh:I64 h
def stH (h:Int):Int:=IntKind.i64.wrap (IntKind.i64.wrap (h * 6364136223846793005)+1442695040888963407)
def stX (h:Int):Int:=andI (xorI (h.fdiv (2 ^ 33)) (h.fdiv (2 ^ 45))) 255
theorem stX_rng (h:Int):0<=stX h/\stX h<=255:=andI_rng _ (by decide) (by decide)
variable {code:List Int}
def Cu.next (c:Cu code):Cu code:=⟨if c.i < code.length then c.i+1 else c.i,stH c.h,by have:=c.hi; split<;>omega,wrap_in _⟩
def Cu.byte (c:Cu code):Int:=if c.i < code.length then andI (stX (stH c.h)+nu code c.i) 255 else stX (stH c.h)
theorem Cu.byte_rng (c:Cu code):0<=c.byte/\c.byte<=255:=by
 unfold Cu.byte
 split
 ·exact andI_rng _ (by decide) (by decide)
 ·exact stX_rng _
@[reducible] def cz (c:Cu code):List Value:=[.int .i64 c.i,.int .i64 c.h]
theorem cz_one (c:Cu code):∀ z ∈ cz c,z.oneCell'=true:=by
 intro z hz
 rcases List.mem_cons.1 hz with rfl|hz
 ·rfl
 ·rw [List.mem_singleton.1 hz]; rfl
theorem cz_ok (hc:code.length<=1048576) (c:Cu code):∀ z ∈ cz c,z.oneCell'=true/\okv z:=by
 intro z hz
 have:=c.hi
 rcases List.mem_cons.1 hz with rfl|hz
 ·exact ⟨rfl,by show I64 (c.i:Int); constructor<;>omega⟩
 ·rw [List.mem_singleton.1 hz]; exact ⟨rfl,c.hh⟩
abbrev Dr (f:FuncId) (c c':Cu code) (args:List Dat) (own:Bool) (d:Dat):Prop:=FnC Tryz.prog f .u8 code (cz c) (cz c') args own d
theorem u8_at (hw:Wf (.slice .u8) code) {i:Nat} (h:i < code.length):0<=nu code i/\nu code i<=255:=by
 rw [nu,nth_lt h]; exact hw.2 _ (List.getElem_mem h)
set_option maxHeartbeats 1000000 in
theorem l01Byte_fn (hc:code.length<=1048576) (c:Cu code):Dr 19 c c.next [] false ⟨.int,c.byte⟩:=by
 have hi:=c.hi
 have h1:=c.hh.1
 have h2:=c.hh.2
 have h3:=c.next.hh.1
 have h4:=c.next.hh.2
 have h5:=c.next.hi
 by_cases hlt:c.i < code.length
 ·have e1:c.next.i=c.i+1:=if_pos hlt
  have e2:c.byte=andI (stX (stH c.h)+nu code c.i) 255:=if_pos hlt
  rw [e2]
  refine fnC_enter tabOKW mixes Tryz.func19 rfl rfl _ Tryz.ntmps19 _ Tryz.results19 (by simp) (cz_ok hc _) (cz_one _) fun b u0 hwl hzs hwf=>?_
  have hu:=u8_at hwl hlt
  have hx:=stX_rng (stH c.h)
  unfold stX stH at hx
  have d1:decide ((c.i:Int) < (code.length:Int))=true:=decide_eq_true (by omega)
  have w1:IntKind.i64.wrap ((c.i:Int)+1)=(c.i:Int)+1:=wrap_I64 (by constructor<;>omega)
  have w2:=wrap_I64 (n:=andI (xorI ((IntKind.i64.wrap (IntKind.i64.wrap (c.h * 6364136223846793005)+1442695040888963407)).fdiv (2 ^ 33)) ((IntKind.i64.wrap (IntKind.i64.wrap (c.h * 6364136223846793005)+1442695040888963407)).fdiv (2 ^ 45))) 255+nu code c.i) (by constructor<;>omega)
  try simp (maxSteps:=9^9) only[go_sem]
  repeat refine AI ?_
  try simp (maxSteps:=9^9) only[go_sem,d1,w1,w2,e1]
  repeat refine AI ?_
  and_intros
  all_goals first|rfl|omega
 ·have e1:c.next.i=c.i:=if_neg hlt
  have e2:c.byte=stX (stH c.h):=if_neg hlt
  rw [e2]
  refine fnC_enter tabOKW mixes Tryz.func19 rfl rfl _ Tryz.ntmps19 _ Tryz.results19 (by simp) (cz_ok hc _) (cz_one _) fun b u0 hwl hzs hwf=>?_
  have hx:=stX_rng (stH c.h)
  have d1:decide ((c.i:Int) < (code.length:Int))=false:=decide_eq_false (by omega)
  try simp (maxSteps:=9^9) only[go_sem]
  repeat refine AI ?_
  try simp (maxSteps:=9^9) only[go_sem,d1]
  repeat refine AI ?_
  try simp (maxSteps:=9^9) only[go_sem,e1]
  and_intros
  all_goals first|rfl|omega
def Cu.below (c:Cu code) (n:Int):Int:=c.byte % n
theorem Cu.below_rng (c:Cu code) {n:Int} (h:1<=n):0<=c.below n/\c.below n < n:=⟨Int.emod_nonneg _ (by omega),Int.emod_lt_of_pos _ (by omega)⟩
theorem l01Below_fn (hc:code.length<=1048576) (c:Cu code) (n:Int) (h:1<=n/\n<=256):Dr 40 c c.next [⟨.int,n⟩] false ⟨.int,c.below n⟩:=by
 have hb:=c.byte_rng
 have d1:decide (n<=0)=false:=decide_eq_false (by omega)
 have d2:decide (n<=256)=true:=decide_eq_true (by omega)
 refine fnC_enter tabOK mixes Tryz.func40 rfl rfl _ Tryz.ntmps40 _ Tryz.results40 (by simp) (cz_ok hc _) (cz_one _) fun b u0 hwl hzs hwf=>?_
 try simp (maxSteps:=9^9) only[go_sem,d1,d2]
 repeat refine AI ?_
 refine CallW.c false (l01Byte_fn hc c) ?_
 try simp (maxSteps:=9^9) only[go_sem]
 refine RemW.pos hb.1 (by omega) ?_
 try simp (maxSteps:=9^9) only[go_sem]
 rfl
theorem l01Once_fn (hc:code.length<=1048576) (c:Cu code) (n:Int) (h:1<=n/\n<=256):Dr 43 c c.next [⟨.int,n⟩] false ⟨.bool,decide (c.below n=0)⟩:=by
 refine fnC_enter tabOK mixes Tryz.func43 rfl rfl _ Tryz.ntmps43 _ Tryz.results43 (by simp) (cz_ok hc _) (cz_one _) fun b u0 hwl hzs hwf=>?_
 try simp (maxSteps:=9^9) only[go_sem]
 repeat refine AI ?_
 refine CallW.c false (l01Below_fn hc c n h) ?_
 try simp (maxSteps:=9^9) only[go_sem]
def h0 (code:List Int):Nat->Int
 | 0=>1952+code.length
 | k+1=>andI (h0 code k * 61+nu code k+7) 1073741823
theorem h0_rng (hc:code.length<=1048576) (k:Nat):0<=h0 code k/\h0 code k<=1073741823:=by
 cases k with
 | zero=>show 0<=1952+(code.length:Int)/\1952+(code.length:Int)<=1073741823; omega
 | succ k=>exact andI_rng _ (by decide) (by decide)
def Cu.new (code:List Int) (hc:code.length<=1048576):Cu code:=⟨0,h0 code (min code.length 4000),Nat.zero_le _,by have:=h0_rng hc (min code.length 4000); constructor<;>omega⟩
theorem l01New_fn (hc:code.length<=1048576):FnN Tryz.prog 17 .u8 code (cz (Cu.new code hc)) []:=by
 refine fnN_enter tabOK mixes Tryz.func17 rfl rfl _ Tryz.ntmps17 _ Tryz.results17 (by simp) (cz_ok hc _) fun u0 hwl hwf=>?_
 try simp (maxSteps:=9^9) only[go_sem]
 repeat refine AI ?_
 refine LoopG.intro _ _ _ (fun i:Nat=>⟨[(0,.fx u0 .u8 code),(3,.sc (.int .i64 (h0 code i))),(4,.sc (.int .i64 i))],[]⟩) (fun i=>i<=code.length/\i<=4000) (fun i=>code.length - i) 0 ?_ ⟨Nat.zero_le _,Nat.zero_le _⟩ ?_
 ·exact WK
 ·rintro i ⟨hi,hi2⟩
  have hr:=h0_rng hc i
  try simp (maxSteps:=9^9) only[go_sem]
  refine GuardW_dec (fun hA=>?_) (fun hA=>?_)
  ·try simp (maxSteps:=9^9) only[go_sem]
   refine CondW_dec (fun hB=>?_) (fun hB=>?_)
   ·have hu:=u8_at hwl (show i < code.length by omega)
    try simp (maxSteps:=9^9) only[go_sem]
    repeat refine AI ?_
    try simp (maxSteps:=9^9) only[go_sem]
    repeat refine AI ?_
    refine LoopK.mk (i+1) ?_ ⟨by omega,by omega⟩ (by omega)
    exact WK
   ·have e:min code.length 4000=i:=by omega
    try simp (maxSteps:=9^9) only[go_sem]
    exact ⟨rfl,by show h0 code i=h0 code (min code.length 4000); rw [e]⟩
  ·have e:min code.length 4000=i:=by omega
   try simp (maxSteps:=9^9) only[go_sem]
   exact ⟨rfl,by show h0 code i=h0 code (min code.length 4000); rw [e]⟩
def Cu.skip (c:Cu code):Nat->Cu code
 | 0=>c
 | k+1=>(c.skip k).next
def Cu.at (code:List Int) (hc:code.length<=1048576) (n:Int):Cu code:=(Cu.new code hc).skip n.toNat
theorem l31New_fn (hc:code.length<=1048576) (n:Int) (hn:0<=n/\n<=1000):FnN Tryz.prog 18 .u8 code (cz (Cu.at code hc n)) [⟨.int,n⟩]:=by
 refine fnN_enter tabOK mixes Tryz.func18 rfl rfl _ Tryz.ntmps18 _ Tryz.results18 (by simp) (cz_ok hc _) fun u0 hwl hwf=>?_
 try simp (maxSteps:=9^9) only[go_sem]
 repeat refine AI ?_
 refine CallW.nb (l01New_fn hc) ?_
 try simp (maxSteps:=9^9) only[go_sem]
 refine LoopG.intro _ _ _ (fun i:Nat=>⟨[(1,.sc (.int .i64 n)),(5,.ptr 0 0),(6,.sc (.int .i64 i))],[(0,.box (.fx u0 .u8 code :: (cz ((Cu.new code hc).skip i)).map fun z=>.sc z))]⟩) (fun i=>(i:Int)<=n) (fun i=>n.toNat - i) 0 ?_ (by omega) ?_
 ·exact WK
 ·rintro i hi
  try simp (maxSteps:=9^9) only[go_sem]
  refine CondW_dec (fun hA=>?_) (fun hA=>?_)
  ·try simp (maxSteps:=9^9) only[go_sem]
   repeat refine AI ?_
   refine CallW.c false (l01Byte_fn hc ((Cu.new code hc).skip i)) ?_
   try simp (maxSteps:=9^9) only[go_sem]
   repeat refine AI ?_
   refine LoopK.mk (i+1) ?_ (by omega) (by omega)
   exact WK
  ·have e:n.toNat=i:=by omega
   try simp (maxSteps:=9^9) only[go_sem]
   unfold Cu.at
   rw [e]
   exact ⟨rfl,rfl⟩
def mkNum (code:List Int) (hc:code.length<=1048576) (n:Int):Int:=(Cu.at code hc n).byte * 256+(Cu.at code hc n).next.byte
theorem mkNum_rng (hc:code.length<=1048576) (n:Int):0<=mkNum code hc n/\mkNum code hc n<=65535:=by
 have b1:=(Cu.at code hc n).byte_rng
 have b2:=(Cu.at code hc n).next.byte_rng
 unfold mkNum
 omega
theorem MakeNum_fn (hc:code.length<=1048576) (n:Int) (hn:0<=n/\n<=1000):Fn Tryz.prog 5 [⟨.slice .u8,code⟩,⟨.int,n⟩] false [⟨.int,mkNum code hc n⟩]:=by
 have b1:=(Cu.at code hc n).byte_rng
 have b2:=(Cu.at code hc n).next.byte_rng
 refine fe Tryz.func5 Tryz.ntmps5 Tryz.results5 fun hwf=>?_
 try simp (maxSteps:=9^9) only[go_sem]
 repeat refine AI ?_
 refine CallW.nb (l31New_fn hc n hn) ?_
 try simp (maxSteps:=9^9) only[go_sem]
 repeat refine AI ?_
 refine CallW.c false (l01Byte_fn hc (Cu.at code hc n)) ?_
 try simp (maxSteps:=9^9) only[go_sem]
 repeat refine AI ?_
 repeat refine AI ?_
 refine CallW.c false (l01Byte_fn hc (Cu.at code hc n).next) ?_
 try simp (maxSteps:=9^9) only[go_sem]
 all_goals repeat refine AI ?_
 all_goals first|kernel_rfl|omega|rfl
variable {code:List Int}
def pvC (c:Cu code):Nat->Cu code
 | 0=>c
 | k+1=>(pvC c k).next.next
def pvL (c:Cu code) (m:Int):Nat->List DV
 | 0=>[]
 | k+1=>pvL c m k++[((pvC c k).below (2 * m+1) - m,(pvC c k).next.below (2 * m+1) - m)]
theorem pvL_len (c:Cu code) (m:Int):∀ k,(pvL c m k).length=k
 | 0=>rfl
 | k+1=>by rw [pvL,List.length_append,pvL_len c m k]; rfl
theorem pvL_in (c:Cu code) {m:Int} (hm:0<=m):∀ k,∀ v ∈ pvL c m k,inB m v=true
 | 0=>fun v hv=>by cases hv
 | k+1=>fun v hv=>by
  rw [pvL,List.mem_append,List.mem_singleton] at hv
  rcases hv with hv|rfl
  ·exact pvL_in c hm k v hv
  ·have h1:=(pvC c k).below_rng (n:=2 * m+1) (by omega)
   have h2:=(pvC c k).next.below_rng (n:=2 * m+1) (by omega)
   exact inB_of (by show -m<=_ - m; omega) (by show _ - m<=m; omega) (by show -m<=_ - m; omega) (by show _ - m<=m; omega)
def pgN (c:Cu code):Nat:=(3+c.below 3).toNat
theorem pgN_rng (c:Cu code):3<=pgN c/\pgN c<=5:=by
 have:=c.below_rng (n:=3) (by decide)
 unfold pgN; omega
def pgH (c:Cu code) (m:Int):List DV:=hullD (pvL c.next m (pgN c))
def pgC (c:Cu code):Cu code:=pvC c.next (pgN c)
def pgT:List DV:=[(-1,-1),(1,-1),(0,1)]
noncomputable def pgD (c:Cu code) (m:Int):Nat->List DV × Cu code
 | 0=>(pgT,c)
 | k+1=>if polyB (pgH c m)=true then (pgH c m,pgC c) else pgD (pgC c) m k
def pgS (c:Cu code):Nat->Cu code
 | 0=>c
 | k+1=>pgC (pgS c k)
theorem pgD_step (c:Cu code) (m:Int) {k:Nat} (hk:k < 8) (h:pgD c m 8=pgD (pgS c k) m (8 - k)):pgD c m 8=if polyB (pgH (pgS c k) m)=true then (pgH (pgS c k) m,pgC (pgS c k)) else pgD (pgS c (k+1)) m (8 - (k+1)):=by
 rw [h,show 8 - k=(8 - (k+1))+1 by omega]; rfl
set_option maxHeartbeats 1000000 in
theorem l06Draw_fn (hc:code.length<=1048576) (c:Cu code) (m:Int) (hm:1<=m/\m<=20):Dr 41 c (pgD c m 8).2 [⟨.int,m⟩] true ⟨.slice tVec,(pgD c m 8).1⟩:=by
 generalize hX:pgD c m 8=X
 refine fnC_enter tabOK mixes Tryz.func41 rfl rfl _ Tryz.ntmps41 _ Tryz.results41 (by simp) (cz_ok hc _) (cz_one _) fun b u0 hwl hzs hwf=>?_
 try simp (maxSteps:=9^9) only[go_sem]
 refine LoopG.intro _ _ _ (fun k:Nat=>⟨[(0,.ptr 0 0),(1,.sc (.int .i64 m)),(5,.sc (.int .i64 k))],[(0,.bx (some b) (.fx u0 .u8 code :: (cz (pgS c k)).map fun z=>.sc z))]⟩) (fun k=>k<=8/\X=pgD (pgS c k) m (8 - k)) (fun k=>8 - k) 0 ?_ ⟨by omega,hX.symm⟩ ?_
 ·exact WK
 ·rintro k ⟨hk,hk2⟩
  have hn:=pgN_rng (pgS c k)
  have hb3:=(pgS c k).below_rng (n:=3) (by decide)
  have eN:3+(pgS c k).below 3=(pgN (pgS c k):Int):=by unfold pgN; omega
  try simp (maxSteps:=9^9) only[go_sem]
  refine CondW_dec (fun hA=>?_) (fun hA=>?_)
  ·have hst:=pgD_step c m (k:=k) (by omega) (by rw [hX]; exact hk2)
   rw [hX] at hst
   try simp (maxSteps:=9^9) only[go_sem]
   repeat refine AI ?_
   refine CallW.c false (l01Below_fn hc (pgS c k) 3 (by omega)) ?_
   try simp (maxSteps:=9^9) only[go_sem]
   repeat refine AI ?_
   try simp (maxSteps:=9^9) only[go_sem,eN]
   repeat refine AI ?_
   refine LoopG.intro _ _ _ (fun j:Nat=>⟨[(0,.ptr 0 0),(1,.sc (.int .i64 m)),(5,.sc (.int .i64 k)),(6,.row 1 0),(7,.sc (.int .i64 ((pgN (pgS c k):Int) - j)))],[(0,.bx (some b) (.fx u0 .u8 code :: (cz (pvC (pgS c k).next j)).map fun z=>.sc z)),(1,.row 24 tVec 0 true (pvL (pgS c k).next m j))]⟩) (fun j=>j<=pgN (pgS c k)) (fun j=>pgN (pgS c k) - j) 0 ?_ (Nat.zero_le _) ?_
   ·exact WK
   ·rintro j hj
    have hjl:=pvL_len (pgS c k).next m j
    have r1:=(pvC (pgS c k).next j).below_rng (n:=2 * m+1) (by omega)
    have r2:=(pvC (pgS c k).next j).next.below_rng (n:=2 * m+1) (by omega)
    try simp (maxSteps:=9^9) only[go_sem]
    refine CondW_dec (fun hB=>?_) (fun hB=>?_)
    ·try simp (maxSteps:=9^9) only[go_sem]
     repeat refine AI ?_
     repeat refine AI ?_
     refine CallW.c false (l01Below_fn hc (pvC (pgS c k).next j) (2 * m+1) (by omega)) ?_
     try simp (maxSteps:=9^9) only[go_sem]
     repeat refine AI ?_
     repeat refine AI ?_
     refine CallW.c false (l01Below_fn hc (pvC (pgS c k).next j).next (2 * m+1) (by omega)) ?_
     try simp (maxSteps:=9^9) only[go_sem]
     try simp (maxSteps:=9^9) only[go_sem,hjl]
     repeat refine AI ?_
     refine LoopK.mk (j+1) ?_ (by omega) (by omega)
     rw [show pvL (pgS c k).next m (j+1)=pvL (pgS c k).next m j++[((pvC (pgS c k).next j).below (2 * m+1) - m,(pvC (pgS c k).next j).next.below (2 * m+1) - m)] from rfl]
     exact WK
    ·have ej:j=pgN (pgS c k):=by omega
     subst ej
     have hin:=pvL_in (pgS c k).next (m:=m) (by omega) (pgN (pgS c k))
     have c1:=specHull_fn (pvL (pgS c k).next m (pgN (pgS c k))) (fun v hv=>by have:=inB_b (hin v hv); exact inB_of (by omega) (by omega) (by omega) (by omega)) (by omega)
     have c2:=specIsPolygon_fn (pgH (pgS c k) m)
     rw [show hullD (pvL (pgS c k).next m (pgN (pgS c k)))=pgH (pgS c k) m from rfl] at c1
     cases hp:polyB (pgH (pgS c k) m)<;>rw [hp] at c2 hst
     ·try simp (maxSteps:=9^9) only[go_sem]
      repeat refine AI ?_
      refine cw c1 ?_
      try simp (maxSteps:=9^9) only[go_sem]
      repeat refine AI ?_
      refine cw c2 ?_
      try simp (maxSteps:=9^9) only[go_sem]
      repeat refine AI ?_
      refine LoopK.mk (k+1) ?_ ⟨by omega,hst⟩ (by omega)
      exact WK
     ·have e2:X=(pgH (pgS c k) m,pgC (pgS c k)):=hst
      rw [e2]
      try simp (maxSteps:=9^9) only[go_sem]
      repeat refine AI ?_
      refine cw c1 ?_
      try simp (maxSteps:=9^9) only[go_sem]
      repeat refine AI ?_
      refine cw c2 ?_
      try simp (maxSteps:=9^9) only[go_sem]
      exact ⟨rfl,rfl⟩
  ·have ek:k=8:=by omega
   subst ek
   have e2:X=(pgT,pgS c 8):=hk2
   rw [e2]
   try simp (maxSteps:=9^9) only[go_sem]
   all_goals repeat refine AI ?_
   all_goals first|kernel_rfl|omega|rfl
end Go.Proofs.YtbopoblkoainjaaGreat.DW

namespace Go.Proofs.YtbopoblkoainjaaGreat.DW
open Go.RowKit
variable {code:List Int}
def ptB (p:DP):Prop:=∃ v:DV,inB 100 v=true/\p=ptV v
theorem stp_pt {p x:DS} (h:ptB p.2) (hx:ptB x.2):ptB (stp p x).2:=by
 unfold stp
 split
 ·exact hx
 ·split
  ·exact h
  ·exact h
end Go.Proofs.YtbopoblkoainjaaGreat.DW

namespace Go.Proofs.YtbopoblkoainjaaGreat.DW
open Go.RowKit
theorem hull_mem {l:List DV} {x:DV} (h:x ∈ hullD l):x ∈ l:=by
 have hc:∀ {m:List DV},x ∈ chD m->x ∈ m:=fun {m} hx=>by
  have h1:x ∈ (chR m).reverse:=List.dropLast_subset _ hx
  have h2:x ∈ chRi m m.length:=by unfold chRi; rw [List.take_length]; exact List.mem_reverse.1 h1
  exact chRi_mem h2
 unfold hullD at h
 split at h
 ·exact srtD_mem.1 h
 ·rcases List.mem_append.1 h with h|h
  ·exact srtD_mem.1 (hc h)
  ·exact srtD_mem.1 (List.mem_reverse.1 (hc h))
theorem trn_aba (a b:DV):trn a b a=0:=by unfold trn; simp
theorem trn_aab (a b:DV):trn a a b=0:=by unfold trn; simp
theorem poly_nd {l:List DV} (h:polyP l):l.Nodup:=by
 rw [List.Nodup,List.pairwise_iff_getElem]
 intro i j hi hj hij e
 have h3:=h.1.1
 have h3':3<=l.length:=by omega
 have hr:=nxt_rng (n:=l.length) (i:=i) (by omega)
 by_cases hn:(j:Int)=nxt l.length i
 ·obtain ⟨k,hk,k1,k2⟩:∃ k,k < l.length/\k ≠ i/\k ≠ j:=by
   by_cases q0:i ≠ 0/\j ≠ 0
   ·exact ⟨0,by omega,by omega,by omega⟩
   ·by_cases q1:i ≠ 1/\j ≠ 1
    ·exact ⟨1,by omega,by omega,by omega⟩
    ·exact ⟨2,by omega,by omega,by omega⟩
  have h2:=h.2.2 i k hi hk (by omega) (by omega)
  rw [show (nxt l.length i).toNat=j by omega,nth_lt (t:=tVec) (l:=l) hi,nth_lt (t:=tVec) (l:=l) hj,e,trn_aab] at h2
  omega
 ·have h2:=h.2.2 i j hi hj (by omega) hn
  rw [nth_lt (t:=tVec) (l:=l) hj,<-e,nth_lt (t:=tVec) (l:=l) hi,trn_aba] at h2
  omega
theorem nd_len {α:Type} [DecidableEq α]:∀ {l m:List α},l.Nodup->(∀ x ∈ l,x ∈ m)->l.length<=m.length
 | [],m,_,_=>Nat.zero_le _
 | a :: l,m,hn,hs=>by
  rw [List.nodup_cons] at hn
  have ha:=hs a List.mem_cons_self
  have:=nd_len (m:=m.erase a) hn.2 fun x hx=>(List.mem_erase_of_ne (fun e=>hn.1 (by rw [<-e]; exact hx))).2 (hs x (List.mem_cons_of_mem _ hx))
  rw [List.length_erase_of_mem ha] at this
  have h0:0 < m.length:=List.length_pos_of_mem ha
  rw [List.length_cons]; omega
theorem allIn_of {k:Int} {l:List DV} (h:∀ v ∈ l,inB k v=true):allIn k l=true:=allIn_t fun i hi=>h _ (nth_mem hi)
theorem pgT_ok:smB pgT 20=true:=by
 have hp:polyP pgT:=by
  refine ⟨by decide,by decide,?_⟩
  intro i k hi hk
  have hi:i < 3:=hi
  have hk:k < 3:=hk
  match i,k,hi,hk with
  | 0,0,_,_=>exact fun h=>absurd rfl h
  | 0,1,_,_=>exact fun _ h=>absurd rfl h
  | 0,2,_,_=>exact fun _ _=>by decide
  | 1,0,_,_=>exact fun _ _=>by decide
  | 1,1,_,_=>exact fun h=>absurd rfl h
  | 1,2,_,_=>exact fun _ h=>absurd rfl h
  | 2,0,_,_=>exact fun _ h=>absurd rfl h
  | 2,1,_,_=>exact fun _ _=>by decide
  | 2,2,_,_=>exact fun h=>absurd rfl h
 unfold smB
 rw [polyB_t hp]
 decide
variable {code:List Int}
theorem pgD_ok (m:Int) (hm:1<=m/\m<=20):∀ (k:Nat) (c:Cu code),smB (pgD c m k).1 20=true
 | 0,c=>pgT_ok
 | k+1,c=>by
  unfold pgD
  split
  ·rename_i h
   have hp:polyP (pgH c m):=@of_decide_eq_true _ (Classical.propDecidable _) h
   have hn:=pgN_rng c
   have h5:=nd_len (poly_nd hp) fun x hx=>hull_mem hx
   rw [pvL_len] at h5
   have hin:∀ v ∈ pgH c m,inB 20 v=true:=fun v hv=>by
    have:=inB_b (pvL_in c.next (m:=m) (by omega) _ v (hull_mem hv))
    exact inB_of (by omega) (by omega) (by omega) (by omega)
   unfold smB
   rw [h,allIn_of hin,decide_eq_true (by show ((pgH c m).length:Int)<=_; omega)]; rfl
  ·exact pgD_ok m hm k (pgC c)
structure TrN (t:DT):Prop where
 ok:tourB t=true
 turn:∀ x ∈ t.2.2,x.1=0
 pt:∀ x ∈ t.2.2,ptB x.2
 start:ptB t.2.1.2
theorem plc_pt:∀ {l:List DS} {p:DS},ptB p.2->(∀ x ∈ l,ptB x.2)->ptB (plcF p l).2
 | [],_,h,_=>h
 | x :: l,p,h,hl=>plc_pt (l:=l) (p:=stp p x) (stp_pt h (hl x List.mem_cons_self)) fun y hy=>hl y (List.mem_cons_of_mem _ hy)
theorem TrN.stand {t:DT} (h:TrN t) (k:Int):ptB (standP t k).2:=plc_pt h.start fun x hx=>h.pt x (List.mem_of_mem_take hx)
end Go.Proofs.YtbopoblkoainjaaGreat.DW
