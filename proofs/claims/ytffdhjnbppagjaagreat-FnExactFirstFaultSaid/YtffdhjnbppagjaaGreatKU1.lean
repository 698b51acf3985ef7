/-
  Texts of a proof, one behind another: LawIsMotion, Dw29, Dw30, Dw31, Dw32, Dw33, Dw34, Rept, Dw35, Dw70, LawCheckMotion, SzP, LawFirstFault.
-/
import Derived.Shelf.Bits.Mul64
import Derived.Laws.CopyOwn
import Derived.Deep.LoopGhost
import Derived.Test.YtffdhjnbppagjaaGreatKB6
set_option linter.all false
namespace Go.Proofs.YtffdhjnbppagjaaGreat.DW
open Go.RowKit
set_option maxRecDepth 100000 in
set_option maxHeartbeats 8000000 in
theorem lawIsMotion_fn (x0:DScene) (x1:DPlacement) (x2:DStepS) (x3:DPlacement):Fn Tryz.prog 5 [⟨DW.tScene,x0⟩,⟨DW.tStep,x1⟩,⟨.slice DW.tStep,x2⟩,⟨DW.tStep,x3⟩] false [⟨.bool,true⟩]:=by
 refine fn_enter tabOK mixes Tryz.func5 rfl rfl _ Tryz.ntmps5 _ Tryz.results5 (by simp) fun hwf=>?_
 try simp (maxSteps:=9^9) only[go_sem]
 repeat refine And.intro (by first|omega|(constructor<;>omega)|kernel_rfl) ?_
 refine CallW.mk (szScene_fn x0 1048576 (by omega) (by omega)) ?_
 try simp (maxSteps:=9^9) only[go_sem]
 repeat refine And.intro (by first|omega|(constructor<;>omega)|kernel_rfl) ?_
 have hr0:=szr_lo 1048576 (Go.Proofs.YtffdhjnbppagjaaGreat.tScene x0) (by omega)
 refine CondW_dec (fun hlt=>?_) (fun hge0=>?_)
 ·try simp (maxSteps:=9^9) only[go_sem]
 have hge0':0<=szr 1048576 (Go.Proofs.YtffdhjnbppagjaaGreat.tScene x0):=by omega
 try simp (maxSteps:=9^9) only[go_sem]
 repeat refine And.intro (by first|omega|(constructor<;>omega)|kernel_rfl) ?_
 refine CallW.mk (szPlacement_fn x1 (szr 1048576 (Go.Proofs.YtffdhjnbppagjaaGreat.tScene x0)) (by omega) (by omega)) ?_
 try simp (maxSteps:=9^9) only[go_sem]
 repeat refine And.intro (by first|omega|(constructor<;>omega)|kernel_rfl) ?_
 have hr1:=szr_lo (szr 1048576 (Go.Proofs.YtffdhjnbppagjaaGreat.tScene x0)) (Go.Proofs.YtffdhjnbppagjaaGreat.tPlacement x1) (by omega)
 refine CondW_dec (fun hlt=>?_) (fun hge1=>?_)
 ·try simp (maxSteps:=9^9) only[go_sem]
 have hge1':0<=szr (szr 1048576 (Go.Proofs.YtffdhjnbppagjaaGreat.tScene x0)) (Go.Proofs.YtffdhjnbppagjaaGreat.tPlacement x1):=by omega
 try simp (maxSteps:=9^9) only[go_sem]
 repeat refine And.intro (by first|omega|(constructor<;>omega)|kernel_rfl) ?_
 refine CallW.mk (szStepS_fn x2 (szr (szr 1048576 (Go.Proofs.YtffdhjnbppagjaaGreat.tScene x0)) (Go.Proofs.YtffdhjnbppagjaaGreat.tPlacement x1)) (by omega) (by omega)) ?_
 try simp (maxSteps:=9^9) only[go_sem]
 repeat refine And.intro (by first|omega|(constructor<;>omega)|kernel_rfl) ?_
 have hr2:=szr_lo (szr (szr 1048576 (Go.Proofs.YtffdhjnbppagjaaGreat.tScene x0)) (Go.Proofs.YtffdhjnbppagjaaGreat.tPlacement x1)) ((x2.length+Go.Proofs.YtffdhjnbppagjaaGreat.tStepS x2)) (by omega)
 refine CondW_dec (fun hlt=>?_) (fun hge2=>?_)
 ·try simp (maxSteps:=9^9) only[go_sem]
 have hge2':0<=szr (szr (szr 1048576 (Go.Proofs.YtffdhjnbppagjaaGreat.tScene x0)) (Go.Proofs.YtffdhjnbppagjaaGreat.tPlacement x1)) ((x2.length+Go.Proofs.YtffdhjnbppagjaaGreat.tStepS x2)):=by omega
 try simp (maxSteps:=9^9) only[go_sem]
 repeat refine And.intro (by first|omega|(constructor<;>omega)|kernel_rfl) ?_
 refine CallW.mk (szPlacement_fn x3 (szr (szr (szr 1048576 (Go.Proofs.YtffdhjnbppagjaaGreat.tScene x0)) (Go.Proofs.YtffdhjnbppagjaaGreat.tPlacement x1)) ((x2.length+Go.Proofs.YtffdhjnbppagjaaGreat.tStepS x2))) (by omega) (by omega)) ?_
 try simp (maxSteps:=9^9) only[go_sem]
 repeat refine And.intro (by first|omega|(constructor<;>omega)|kernel_rfl) ?_
 have hr3:=szr_lo (szr (szr (szr 1048576 (Go.Proofs.YtffdhjnbppagjaaGreat.tScene x0)) (Go.Proofs.YtffdhjnbppagjaaGreat.tPlacement x1)) ((x2.length+Go.Proofs.YtffdhjnbppagjaaGreat.tStepS x2))) (Go.Proofs.YtffdhjnbppagjaaGreat.tPlacement x3) (by omega)
 refine CondW_dec (fun hlt=>?_) (fun hge3=>?_)
 ·try simp (maxSteps:=9^9) only[go_sem]
 have hge3':0<=szr (szr (szr (szr 1048576 (Go.Proofs.YtffdhjnbppagjaaGreat.tScene x0)) (Go.Proofs.YtffdhjnbppagjaaGreat.tPlacement x1)) ((x2.length+Go.Proofs.YtffdhjnbppagjaaGreat.tStepS x2))) (Go.Proofs.YtffdhjnbppagjaaGreat.tPlacement x3):=by omega
 have hs0:=(szr_ok hge0').1
 have hs1:=(szr_ok hge1').1
 have hs2:=(szr_ok hge2').1
 have hs3:=(szr_ok hge3').1
 have hle0:Go.Proofs.YtffdhjnbppagjaaGreat.tScene x0<=1048576:=by omega
 have hle1:Go.Proofs.YtffdhjnbppagjaaGreat.tPlacement x1<=1048576:=by omega
 have hle2:(x2.length+Go.Proofs.YtffdhjnbppagjaaGreat.tStepS x2)<=1048576:=by omega
 have hle3:Go.Proofs.YtffdhjnbppagjaaGreat.tPlacement x3<=1048576:=by omega
 clear hr0 hs0 hge0 hge0' hr1 hs1 hge1 hge1' hr2 hs2 hge2 hge2' hr3 hs3 hge3 hge3'
 try simp (maxSteps:=9^9) only[go_sem]
 repeat refine And.intro (by first|omega|(constructor<;>omega)|kernel_rfl) ?_
 refine CallW.mk (toScene_fn x0 hle0) ?_
 try simp (maxSteps:=9^9) only[go_sem]
 repeat refine And.intro (by first|omega|(constructor<;>omega)|kernel_rfl) ?_
 refine CallW.mk (toPlacement_fn x1 hle1) ?_
 try simp (maxSteps:=9^9) only[go_sem]
 repeat refine And.intro (by first|omega|(constructor<;>omega)|kernel_rfl) ?_
 refine CallW.mk (toStepS_fn x2 hle2) ?_
 try simp (maxSteps:=9^9) only[go_sem]
 repeat refine And.intro (by first|omega|(constructor<;>omega)|kernel_rfl) ?_
 refine CallW.mk (toPlacement_fn x3 hle3) ?_
 try simp (maxSteps:=9^9) only[go_sem]
 repeat refine And.intro (by first|omega|(constructor<;>omega)|kernel_rfl) ?_
 refine CallW.mk (IsMotionS_fn x0 x1 x2 x3) ?_
 try simp (maxSteps:=9^9) only[go_sem]
 repeat refine And.intro (by first|omega|(constructor<;>omega)|kernel_rfl) ?_
 refine CallW.mx (toScene_fn x0 hle0) ?_
 try simp (maxSteps:=9^9) only[go_sem]
 repeat refine And.intro (by first|omega|(constructor<;>omega)|kernel_rfl) ?_
 refine CallW.mx (toPlacement_fn x1 hle1) ?_
 try simp (maxSteps:=9^9) only[go_sem]
 repeat refine And.intro (by first|omega|(constructor<;>omega)|kernel_rfl) ?_
 refine CallW.mx (toStepS_fn x2 hle2) ?_
 try simp (maxSteps:=9^9) only[go_sem]
 repeat refine And.intro (by first|omega|(constructor<;>omega)|kernel_rfl) ?_
 refine CallW.mx (toPlacement_fn x3 hle3) ?_
 try simp (maxSteps:=9^9) only[go_sem]
 repeat refine And.intro (by first|omega|(constructor<;>omega)|kernel_rfl) ?_
 refine CallW.mx (IsMotionI_fn x0 x1 x2 x3) ?_
 try simp (maxSteps:=9^9) only[go_sem]
 repeat refine And.intro (by first|omega|(constructor<;>omega)|kernel_rfl) ?_
 refine CallW.mk (toScene_fn x0 hle0) ?_
 try simp (maxSteps:=9^9) only[go_sem]
 repeat refine And.intro (by first|omega|(constructor<;>omega)|kernel_rfl) ?_
 refine CallW.mx (eqScene_fn x0 x0) ?_
 try simp (maxSteps:=9^9) only[go_sem]
 repeat refine And.intro (by first|omega|(constructor<;>omega)|kernel_rfl) ?_
 refine CallW.mk (toPlacement_fn x1 hle1) ?_
 try simp (maxSteps:=9^9) only[go_sem]
 repeat refine And.intro (by first|omega|(constructor<;>omega)|kernel_rfl) ?_
 refine CallW.mx (eqPlacement_fn x1 x1) ?_
 try simp (maxSteps:=9^9) only[go_sem]
 repeat refine And.intro (by first|omega|(constructor<;>omega)|kernel_rfl) ?_
 refine CallW.mk (toStepS_fn x2 hle2) ?_
 try simp (maxSteps:=9^9) only[go_sem]
 repeat refine And.intro (by first|omega|(constructor<;>omega)|kernel_rfl) ?_
 refine CallW.mx (eqStepS_fn x2 x2) ?_
 try simp (maxSteps:=9^9) only[go_sem]
 repeat refine And.intro (by first|omega|(constructor<;>omega)|kernel_rfl) ?_
 refine CallW.mk (toPlacement_fn x3 hle3) ?_
 try simp (maxSteps:=9^9) only[go_sem]
 repeat refine And.intro (by first|omega|(constructor<;>omega)|kernel_rfl) ?_
 refine CallW.mx (eqPlacement_fn x3 x3) ?_
 try simp (maxSteps:=9^9) only[go_sem]
 all_goals repeat refine And.intro (by first|omega|(constructor<;>omega)|kernel_rfl) ?_
 all_goals first|kernel_rfl|omega|rfl
end Go.Proofs.YtffdhjnbppagjaaGreat.DW
namespace Go.Proofs.YtffdhjnbppagjaaGreat
open Go.RowKit DW
theorem law_FnExactIsMotion (a0_0 a0_1 a0_2 a0_3 a0_4 a0_5 a0_6:Value) (x0:DScene) (a1_0 a1_1 a1_2 a1_3 a1_4 a1_5 a1_6:Value) (x1:DPlacement) (a2:Value) (x2:DStepS) (a3_0 a3_1 a3_2 a3_3 a3_4 a3_5 a3_6:Value) (x3:DPlacement) (w:World) (hx0:Has RScene w [a0_0,a0_1,a0_2,a0_3,a0_4,a0_5,a0_6] x0) (hx1:Has RPlacement w [a1_0,a1_1,a1_2,a1_3,a1_4,a1_5,a1_6] x1) (hx2:Has RStepS w [a2] x2) (hx3:Has RPlacement w [a3_0,a3_1,a3_2,a3_3,a3_4,a3_5,a3_6] x3) :
  Calls Tryz.prog 5 #[.agg #[a0_0,a0_1,a0_2,a0_3,a0_4,a0_5,a0_6],.agg #[a1_0,a1_1,a1_2,a1_3,a1_4,a1_5,a1_6],a2,.agg #[a3_0,a3_1,a3_2,a3_3,a3_4,a3_5,a3_6]] w (Post fun r w'=>r=.bool true/\Below w.heap.size w w') :=
 (DW.lawIsMotion_fn x0 x1 x2 x3).bool (vs:=[.agg #[a0_0,a0_1,a0_2,a0_3,a0_4,a0_5,a0_6],.agg #[a1_0,a1_1,a1_2,a1_3,a1_4,a1_5,a1_6],a2,.agg #[a3_0,a3_1,a3_2,a3_3,a3_4,a3_5,a3_6]]) ⟨Arg.agg (t:=DW.tScene) (cs:=[a0_0,a0_1,a0_2,a0_3,a0_4,a0_5,a0_6]) rfl hx0,Arg.agg (t:=DW.tStep) (cs:=[a1_0,a1_1,a1_2,a1_3,a1_4,a1_5,a1_6]) rfl hx1,Arg.sl hx2,Arg.agg (t:=DW.tStep) (cs:=[a3_0,a3_1,a3_2,a3_3,a3_4,a3_5,a3_6]) rfl hx3,trivial⟩
end Go.Proofs.YtffdhjnbppagjaaGreat

namespace Go.Proofs.YtffdhjnbppagjaaGreat.DW
open Go.RowKit
end Go.Proofs.YtffdhjnbppagjaaGreat.DW

namespace Go.Proofs.YtffdhjnbppagjaaGreat.DW
open Go.RowKit
attribute [go_sem] argV
end Go.Proofs.YtffdhjnbppagjaaGreat.DW

namespace Go.Proofs.YtffdhjnbppagjaaGreat.DW
open Go.RowKit
end Go.Proofs.YtffdhjnbppagjaaGreat.DW

namespace Go.Proofs.YtffdhjnbppagjaaGreat.DW
open Go.RowKit
end Go.Proofs.YtffdhjnbppagjaaGreat.DW

namespace Go.Proofs.YtffdhjnbppagjaaGreat.DW
open Go.RowKit
end Go.Proofs.YtffdhjnbppagjaaGreat.DW

namespace Go.Proofs.YtffdhjnbppagjaaGreat.DW
open Go.RowKit
end Go.Proofs.YtffdhjnbppagjaaGreat.DW

namespace Go.Proofs.YtffdhjnbppagjaaGreat
open Go.RowKit Go.Lib
end Go.Proofs.YtffdhjnbppagjaaGreat
namespace Go.Proofs.YtffdhjnbppagjaaGreat.DW
open Go.RowKit
end Go.Proofs.YtffdhjnbppagjaaGreat.DW

namespace Go.Proofs.YtffdhjnbppagjaaGreat.DW
open Go.RowKit
def szP (p:DP):Prop:=(p.1.1.2.length<=1048576/\p.1.2.length<=1048576)/\(p.2.1.2.length<=1048576/\p.2.2.length<=1048576)
theorem ownPointS_fn (p:DP) (h:szP p):Fn Tryz.prog 192 [⟨tPoint,p⟩] true [⟨tPoint,p⟩]:=by
 obtain ⟨⟨h1,h2⟩,h3,h4⟩:=h
 have c1:=ownRat_fn p.1 (by omega) (by omega)
 have c2:=ownRat_fn p.2 (by omega) (by omega)
 refine fn_enter tabOK mixes Tryz.func192 rfl rfl _ Tryz.ntmps192 _ Tryz.results192 (by simp) fun hwf=>?_
 try simp (maxSteps:=9^9) only[go_sem]
 repeat refine And.intro (by first|omega|(constructor<;>omega)|kernel_rfl) ?_
 refine CallW.mk (c1) ?_
 try simp (maxSteps:=9^9) only[go_sem]
 repeat refine And.intro (by first|omega|(constructor<;>omega)|kernel_rfl) ?_
 refine CallW.mk (c2) ?_
 try simp (maxSteps:=9^9) only[go_sem]
 all_goals repeat refine And.intro (by first|omega|(constructor<;>omega)|kernel_rfl) ?_
 all_goals first|kernel_rfl|omega|rfl
theorem l05CopyS_fn (p:DP) (h:szP p):Fn Tryz.prog 111 [⟨tPoint,p⟩] true [⟨tPoint,p⟩]:=by
 obtain ⟨⟨h1,h2⟩,h3,h4⟩:=h
 have c1:=l04Copy_fn p.1 (by omega) (by omega)
 have c2:=l04Copy_fn p.2 (by omega) (by omega)
 refine fn_enter tabOK mixes Tryz.func111 rfl rfl _ Tryz.ntmps111 _ Tryz.results111 (by simp) fun hwf=>?_
 try simp (maxSteps:=9^9) only[go_sem]
 repeat refine And.intro (by first|omega|(constructor<;>omega)|kernel_rfl) ?_
 refine CallW.mk (c1) ?_
 try simp (maxSteps:=9^9) only[go_sem]
 repeat refine And.intro (by first|omega|(constructor<;>omega)|kernel_rfl) ?_
 refine CallW.mk (c2) ?_
 try simp (maxSteps:=9^9) only[go_sem]
 all_goals repeat refine And.intro (by first|omega|(constructor<;>omega)|kernel_rfl) ?_
 all_goals first|kernel_rfl|omega|rfl
end Go.Proofs.YtffdhjnbppagjaaGreat.DW

namespace Go.Proofs.YtffdhjnbppagjaaGreat.DW
open Go.RowKit
theorem szP_stp {p x:DS} (hp:szP p.2) (hx:szP x.2):szP (stp p x).2:=by
 unfold stp
 split
 ·exact hx
 ·split
  ·exact hp
  ·exact hp
theorem szP_F {l:List DS}:∀ {p:DS},szP p.2->(∀ x ∈ l,szP x.2)->szP (plcF p l).2:=by
 induction l with
 | nil=>intro p hp _; exact hp
 | cons x l ih=>intro p hp h; exact ih (p:=stp p x) (szP_stp hp (h x List.mem_cons_self)) fun y hy=>h y (List.mem_cons_of_mem _ hy)
theorem PlacementAfterZ_fn (p:DS) (l:List DS) (h:szP (plcF p l).2):Fn Tryz.prog 106 [⟨tStep,p⟩,⟨.slice tStep,l⟩,⟨.int,l.length⟩] true [⟨tStep,plcF p l⟩]:=by
 have hk:∀ i,i<=l.length->clip (l.length:Int) i=i:=fun i hi=>by unfold clip; omega
 have c2:=l05CopyS_fn _ h
 refine fn_enter tabOK mixes Tryz.func106 rfl rfl _ Tryz.ntmps106 _ Tryz.results106 (by simp) fun hwf=>?_
 have hl:l.length<=9223372036854775807:=(hwf ⟨.slice tStep,l⟩ (by simp)).1
 try simp (maxSteps:=9^9) only[go_sem]
 refine LoopG.intro _ _ _ (fun i:Nat=>⟨[(2,.sc (.int .i64 l.length)),(3,.ptr 0 0),(6,.ptr 1 0),(9,.sl tStep l),(10,.sc (.int .i64 l.length)),(11,.sc (.int .i64 i))],[(1,.box [.sc (.int .i64 0),.sc (.bool false),.sc (.slice none 0 0),.sc (.slice none 0 0),.sc (.bool false),.sc (.slice none 0 0),.sc (.slice none 0 0)]),(0,.box (cel tStep (plcS p l i)))]⟩) (fun i=>i<=l.length) (fun i=>l.length - i) 0 ?_ (Nat.zero_le _) ?_
 ·rw [show plcS p l 0=p from rfl]
  refine Wk.mk [] ?_
  try simp (maxSteps:=9^9) only[go_sem]
  try (and_intros<;>first|rfl|omega|exact ⟨_,rfl⟩)
 ·rintro i hi
  try simp (maxSteps:=9^9) only[go_sem]
  refine CondW_dec (fun hA=>?_) (fun hA=>?_)
  ·try simp (maxSteps:=9^9) only[go_sem]
   repeat refine And.intro (by first|omega|(constructor<;>omega)|kernel_rfl) ?_
   refine CondW_dec (fun hB=>?_) (fun hB=>absurd hA hB)
   have hst:=plcS_step p (show i < l.length by omega)
   have c1:=l22After_fn (plcS p l i) (nth (t:=tStep) l i)
   try simp (maxSteps:=9^9) only[go_sem]
   repeat refine And.intro (by first|omega|(constructor<;>omega)|kernel_rfl) ?_
   refine CallW.mk (c1) ?_
   try simp (maxSteps:=9^9) only[go_sem]
   repeat refine And.intro (by first|omega|(constructor<;>omega)|kernel_rfl) ?_
   refine LoopK.mk (i+1) ?_ (by omega) (by omega)
   rw [hst]
   refine Wk.mk [] ?_
   try simp (maxSteps:=9^9) only[go_sem]
   try (and_intros<;>first|rfl|omega|exact ⟨_,rfl⟩)
  ·have e:plcF p l=plcS p l i:=by unfold plcS; rw [List.take_of_length_le (by omega)]
   rw [e] at c2 ⊢
   generalize plcS p l i=q at c2 ⊢
   try simp (maxSteps:=9^9) only[go_sem]
   repeat refine And.intro (by first|omega|(constructor<;>omega)|kernel_rfl) ?_
   refine CallW.mk (c2) ?_
   try simp (maxSteps:=9^9) only[go_sem]
   all_goals repeat refine And.intro (by first|omega|(constructor<;>omega)|kernel_rfl) ?_
   all_goals first|kernel_rfl|omega|rfl
theorem afterAll_fn (p:DS) (l:List DS):Fn Tryz.prog 107 [⟨tStep,p⟩,⟨.slice tStep,l⟩,⟨.int,l.length⟩] false [⟨tStep,plcF p l⟩]:=by
 have h:=after_fn p l l.length
 rw [show clip (l.length:Int) l.length=l.length by unfold clip; omega,show plcS p l l.length=plcF p l by unfold plcS; rw [List.take_length]] at h
 exact h
theorem ckD_codes (s:DSc) (p:DS) (l:List DS) (q:DS):(ckD s p l q).1=0\/(ckD s p l q).1=1\/(ckD s p l q).1=2\/(ckD s p l q).1=3\/(ckD s p l q).1=4\/(ckD s p l q).1=5\/(ckD s p l q).1=6:=by
 have hgo:∀ (l:List DS) (p:DS) (i:Nat) (r:Int × Int),ckGo s p l i=some r->r.1=3\/r.1=4\/r.1=5:=by
  intro l
  induction l with
  | nil=>intro p i r h; cases h
  | cons x l ih =>
   intro p i r h
   unfold ckGo at h
   split at h
   ·exact ih _ _ _ h
   ·rename_i h0
    injection h with h
    subst h
    have:=fltD_codes s p x
    simp only
    omega
 unfold ckD
 split
 ·split
  ·split
   ·rename_i r hr
    have:=hgo _ _ _ _ hr
    omega
   ·split<;>simp
  ·simp
 ·simp
theorem ff_1 {s:DSc} {p:DS} {l:List DS} (h:(ckD s p l (plcF p l)).1=1\/(ckD s p l (plcF p l)).1=2):ffD s p l=-1:=if_pos h
theorem ff_2 {s:DSc} {p:DS} {l:List DS} (h:(ckD s p l (plcF p l)).1=3\/(ckD s p l (plcF p l)).1=4\/(ckD s p l (plcF p l)).1=5):ffD s p l=(ckD s p l (plcF p l)).2:=by
 unfold ffD
 rw [if_neg (by omega),if_pos h]
theorem ff_3 {s:DSc} {p:DS} {l:List DS} (h:(ckD s p l (plcF p l)).1=0\/(ckD s p l (plcF p l)).1=6):ffD s p l=l.length:=by
 unfold ffD
 rw [if_neg (by omega),if_neg (by omega)]
theorem FirstFaultI_fn (s:DSc) (p:DS) (l:List DS):Fn Tryz.prog 35 [⟨tScene,s⟩,⟨tStep,p⟩,⟨.slice tStep,l⟩] false [⟨.int,ffD s p l⟩]:=by
 have c1:=afterAll_fn p l
 have c2:=CheckMotionI_fn s p l (plcF p l)
 have hc:=ckD_codes s p l (plcF p l)
 rcases hc with h|h|h|h|h|h|h
 ·rw [ff_3 (.inl h)]
  rw [h] at c2
  refine fn_enter tabOK mixes Tryz.func35 rfl rfl _ Tryz.ntmps35 _ Tryz.results35 (by simp) fun hwf=>?_
  have hl:l.length<=9223372036854775807:=(hwf ⟨.slice tStep,l⟩ (by simp)).1
  try simp (maxSteps:=9^9) only[go_sem]
  repeat refine And.intro (by first|omega|(constructor<;>omega)|kernel_rfl) ?_
  refine CallW.mk (c1) ?_
  try simp (maxSteps:=9^9) only[go_sem]
  repeat refine And.intro (by first|omega|(constructor<;>omega)|kernel_rfl) ?_
  refine CallW.mk (c2) ?_
  try simp (maxSteps:=9^9) only[go_sem]
  all_goals repeat refine And.intro (by first|omega|(constructor<;>omega)|kernel_rfl) ?_
  all_goals first|kernel_rfl|omega|rfl
 ·rw [ff_1 (.inl h)]
  rw [h] at c2
  refine fn_enter tabOK mixes Tryz.func35 rfl rfl _ Tryz.ntmps35 _ Tryz.results35 (by simp) fun hwf=>?_
  have hl:l.length<=9223372036854775807:=(hwf ⟨.slice tStep,l⟩ (by simp)).1
  try simp (maxSteps:=9^9) only[go_sem]
  repeat refine And.intro (by first|omega|(constructor<;>omega)|kernel_rfl) ?_
  refine CallW.mk (c1) ?_
  try simp (maxSteps:=9^9) only[go_sem]
  repeat refine And.intro (by first|omega|(constructor<;>omega)|kernel_rfl) ?_
  refine CallW.mk (c2) ?_
  try simp (maxSteps:=9^9) only[go_sem]
  all_goals repeat refine And.intro (by first|omega|(constructor<;>omega)|kernel_rfl) ?_
  all_goals first|kernel_rfl|omega|rfl
 ·rw [ff_1 (.inr h)]
  rw [h] at c2
  refine fn_enter tabOK mixes Tryz.func35 rfl rfl _ Tryz.ntmps35 _ Tryz.results35 (by simp) fun hwf=>?_
  have hl:l.length<=9223372036854775807:=(hwf ⟨.slice tStep,l⟩ (by simp)).1
  try simp (maxSteps:=9^9) only[go_sem]
  repeat refine And.intro (by first|omega|(constructor<;>omega)|kernel_rfl) ?_
  refine CallW.mk (c1) ?_
  try simp (maxSteps:=9^9) only[go_sem]
  repeat refine And.intro (by first|omega|(constructor<;>omega)|kernel_rfl) ?_
  refine CallW.mk (c2) ?_
  try simp (maxSteps:=9^9) only[go_sem]
  all_goals repeat refine And.intro (by first|omega|(constructor<;>omega)|kernel_rfl) ?_
  all_goals first|kernel_rfl|omega|rfl
 ·rw [ff_2 (.inl h)]
  rw [h] at c2
  refine fn_enter tabOK mixes Tryz.func35 rfl rfl _ Tryz.ntmps35 _ Tryz.results35 (by simp) fun hwf=>?_
  have hl:l.length<=9223372036854775807:=(hwf ⟨.slice tStep,l⟩ (by simp)).1
  try simp (maxSteps:=9^9) only[go_sem]
  repeat refine And.intro (by first|omega|(constructor<;>omega)|kernel_rfl) ?_
  refine CallW.mk (c1) ?_
  try simp (maxSteps:=9^9) only[go_sem]
  repeat refine And.intro (by first|omega|(constructor<;>omega)|kernel_rfl) ?_
  refine CallW.mk (c2) ?_
  try simp (maxSteps:=9^9) only[go_sem]
  all_goals repeat refine And.intro (by first|omega|(constructor<;>omega)|kernel_rfl) ?_
  all_goals first|kernel_rfl|omega|rfl
 ·rw [ff_2 (.inr (.inl h))]
  rw [h] at c2
  refine fn_enter tabOK mixes Tryz.func35 rfl rfl _ Tryz.ntmps35 _ Tryz.results35 (by simp) fun hwf=>?_
  have hl:l.length<=9223372036854775807:=(hwf ⟨.slice tStep,l⟩ (by simp)).1
  try simp (maxSteps:=9^9) only[go_sem]
  repeat refine And.intro (by first|omega|(constructor<;>omega)|kernel_rfl) ?_
  refine CallW.mk (c1) ?_
  try simp (maxSteps:=9^9) only[go_sem]
  repeat refine And.intro (by first|omega|(constructor<;>omega)|kernel_rfl) ?_
  refine CallW.mk (c2) ?_
  try simp (maxSteps:=9^9) only[go_sem]
  all_goals repeat refine And.intro (by first|omega|(constructor<;>omega)|kernel_rfl) ?_
  all_goals first|kernel_rfl|omega|rfl
 ·rw [ff_2 (.inr (.inr h))]
  rw [h] at c2
  refine fn_enter tabOK mixes Tryz.func35 rfl rfl _ Tryz.ntmps35 _ Tryz.results35 (by simp) fun hwf=>?_
  have hl:l.length<=9223372036854775807:=(hwf ⟨.slice tStep,l⟩ (by simp)).1
  try simp (maxSteps:=9^9) only[go_sem]
  repeat refine And.intro (by first|omega|(constructor<;>omega)|kernel_rfl) ?_
  refine CallW.mk (c1) ?_
  try simp (maxSteps:=9^9) only[go_sem]
  repeat refine And.intro (by first|omega|(constructor<;>omega)|kernel_rfl) ?_
  refine CallW.mk (c2) ?_
  try simp (maxSteps:=9^9) only[go_sem]
  all_goals repeat refine And.intro (by first|omega|(constructor<;>omega)|kernel_rfl) ?_
  all_goals first|kernel_rfl|omega|rfl
 ·rw [ff_3 (.inr h)]
  rw [h] at c2
  refine fn_enter tabOK mixes Tryz.func35 rfl rfl _ Tryz.ntmps35 _ Tryz.results35 (by simp) fun hwf=>?_
  have hl:l.length<=9223372036854775807:=(hwf ⟨.slice tStep,l⟩ (by simp)).1
  try simp (maxSteps:=9^9) only[go_sem]
  repeat refine And.intro (by first|omega|(constructor<;>omega)|kernel_rfl) ?_
  refine CallW.mk (c1) ?_
  try simp (maxSteps:=9^9) only[go_sem]
  repeat refine And.intro (by first|omega|(constructor<;>omega)|kernel_rfl) ?_
  refine CallW.mk (c2) ?_
  try simp (maxSteps:=9^9) only[go_sem]
  all_goals repeat refine And.intro (by first|omega|(constructor<;>omega)|kernel_rfl) ?_
  all_goals first|kernel_rfl|omega|rfl
theorem FirstFaultS_fn (s:DSc) (p:DS) (l:List DS) (hz:szP (plcF p l).2):Fn Tryz.prog 34 [⟨tScene,s⟩,⟨tStep,p⟩,⟨.slice tStep,l⟩] false [⟨.int,ffD s p l⟩]:=by
 have c1:=(PlacementAfterZ_fn p l hz).sh
 have c2:=CheckMotionS_fn s p l (plcF p l)
 have hc:=ckD_codes s p l (plcF p l)
 rcases hc with h|h|h|h|h|h|h
 ·rw [ff_3 (.inl h)]
  rw [h] at c2
  refine fn_enter tabOK mixes Tryz.func34 rfl rfl _ Tryz.ntmps34 _ Tryz.results34 (by simp) fun hwf=>?_
  have hl:l.length<=9223372036854775807:=(hwf ⟨.slice tStep,l⟩ (by simp)).1
  try simp (maxSteps:=9^9) only[go_sem]
  repeat refine And.intro (by first|omega|(constructor<;>omega)|kernel_rfl) ?_
  refine CallW.mk (c1) ?_
  try simp (maxSteps:=9^9) only[go_sem]
  repeat refine And.intro (by first|omega|(constructor<;>omega)|kernel_rfl) ?_
  refine CallW.mk (c2) ?_
  try simp (maxSteps:=9^9) only[go_sem]
  all_goals repeat refine And.intro (by first|omega|(constructor<;>omega)|kernel_rfl) ?_
  all_goals first|kernel_rfl|omega|rfl
 ·rw [ff_1 (.inl h)]
  rw [h] at c2
  refine fn_enter tabOK mixes Tryz.func34 rfl rfl _ Tryz.ntmps34 _ Tryz.results34 (by simp) fun hwf=>?_
  have hl:l.length<=9223372036854775807:=(hwf ⟨.slice tStep,l⟩ (by simp)).1
  try simp (maxSteps:=9^9) only[go_sem]
  repeat refine And.intro (by first|omega|(constructor<;>omega)|kernel_rfl) ?_
  refine CallW.mk (c1) ?_
  try simp (maxSteps:=9^9) only[go_sem]
  repeat refine And.intro (by first|omega|(constructor<;>omega)|kernel_rfl) ?_
  refine CallW.mk (c2) ?_
  try simp (maxSteps:=9^9) only[go_sem]
  all_goals repeat refine And.intro (by first|omega|(constructor<;>omega)|kernel_rfl) ?_
  all_goals first|kernel_rfl|omega|rfl
 ·rw [ff_1 (.inr h)]
  rw [h] at c2
  refine fn_enter tabOK mixes Tryz.func34 rfl rfl _ Tryz.ntmps34 _ Tryz.results34 (by simp) fun hwf=>?_
  have hl:l.length<=9223372036854775807:=(hwf ⟨.slice tStep,l⟩ (by simp)).1
  try simp (maxSteps:=9^9) only[go_sem]
  repeat refine And.intro (by first|omega|(constructor<;>omega)|kernel_rfl) ?_
  refine CallW.mk (c1) ?_
  try simp (maxSteps:=9^9) only[go_sem]
  repeat refine And.intro (by first|omega|(constructor<;>omega)|kernel_rfl) ?_
  refine CallW.mk (c2) ?_
  try simp (maxSteps:=9^9) only[go_sem]
  all_goals repeat refine And.intro (by first|omega|(constructor<;>omega)|kernel_rfl) ?_
  all_goals first|kernel_rfl|omega|rfl
 ·rw [ff_2 (.inl h)]
  rw [h] at c2
  refine fn_enter tabOK mixes Tryz.func34 rfl rfl _ Tryz.ntmps34 _ Tryz.results34 (by simp) fun hwf=>?_
  have hl:l.length<=9223372036854775807:=(hwf ⟨.slice tStep,l⟩ (by simp)).1
  try simp (maxSteps:=9^9) only[go_sem]
  repeat refine And.intro (by first|omega|(constructor<;>omega)|kernel_rfl) ?_
  refine CallW.mk (c1) ?_
  try simp (maxSteps:=9^9) only[go_sem]
  repeat refine And.intro (by first|omega|(constructor<;>omega)|kernel_rfl) ?_
  refine CallW.mk (c2) ?_
  try simp (maxSteps:=9^9) only[go_sem]
  all_goals repeat refine And.intro (by first|omega|(constructor<;>omega)|kernel_rfl) ?_
  all_goals first|kernel_rfl|omega|rfl
 ·rw [ff_2 (.inr (.inl h))]
  rw [h] at c2
  refine fn_enter tabOK mixes Tryz.func34 rfl rfl _ Tryz.ntmps34 _ Tryz.results34 (by simp) fun hwf=>?_
  have hl:l.length<=9223372036854775807:=(hwf ⟨.slice tStep,l⟩ (by simp)).1
  try simp (maxSteps:=9^9) only[go_sem]
  repeat refine And.intro (by first|omega|(constructor<;>omega)|kernel_rfl) ?_
  refine CallW.mk (c1) ?_
  try simp (maxSteps:=9^9) only[go_sem]
  repeat refine And.intro (by first|omega|(constructor<;>omega)|kernel_rfl) ?_
  refine CallW.mk (c2) ?_
  try simp (maxSteps:=9^9) only[go_sem]
  all_goals repeat refine And.intro (by first|omega|(constructor<;>omega)|kernel_rfl) ?_
  all_goals first|kernel_rfl|omega|rfl
 ·rw [ff_2 (.inr (.inr h))]
  rw [h] at c2
  refine fn_enter tabOK mixes Tryz.func34 rfl rfl _ Tryz.ntmps34 _ Tryz.results34 (by simp) fun hwf=>?_
  have hl:l.length<=9223372036854775807:=(hwf ⟨.slice tStep,l⟩ (by simp)).1
  try simp (maxSteps:=9^9) only[go_sem]
  repeat refine And.intro (by first|omega|(constructor<;>omega)|kernel_rfl) ?_
  refine CallW.mk (c1) ?_
  try simp (maxSteps:=9^9) only[go_sem]
  repeat refine And.intro (by first|omega|(constructor<;>omega)|kernel_rfl) ?_
  refine CallW.mk (c2) ?_
  try simp (maxSteps:=9^9) only[go_sem]
  all_goals repeat refine And.intro (by first|omega|(constructor<;>omega)|kernel_rfl) ?_
  all_goals first|kernel_rfl|omega|rfl
 ·rw [ff_3 (.inr h)]
  rw [h] at c2
  refine fn_enter tabOK mixes Tryz.func34 rfl rfl _ Tryz.ntmps34 _ Tryz.results34 (by simp) fun hwf=>?_
  have hl:l.length<=9223372036854775807:=(hwf ⟨.slice tStep,l⟩ (by simp)).1
  try simp (maxSteps:=9^9) only[go_sem]
  repeat refine And.intro (by first|omega|(constructor<;>omega)|kernel_rfl) ?_
  refine CallW.mk (c1) ?_
  try simp (maxSteps:=9^9) only[go_sem]
  repeat refine And.intro (by first|omega|(constructor<;>omega)|kernel_rfl) ?_
  refine CallW.mk (c2) ?_
  try simp (maxSteps:=9^9) only[go_sem]
  all_goals repeat refine And.intro (by first|omega|(constructor<;>omega)|kernel_rfl) ?_
  all_goals first|kernel_rfl|omega|rfl
theorem Fn.two {P:Program} {f:FuncId} {args:List Dat} {own:Bool} {a b:Int} (h:Fn P f args own [⟨.int,a⟩,⟨.int,b⟩]):FnT P f args [⟨.int,a⟩,⟨.int,b⟩] :=
 ⟨h.1,fun w vs S ha=>(h.2 w vs S ha).mono fun en w' ⟨hb,v,he,us,hv,hr⟩=>⟨hb,us,by rw [he,hv],by
  have key:∀ {u:Value} {n:Int},DRes false w.heap.size S w' u ⟨.int,n⟩->DRes true w.heap.size S w' u ⟨.int,n⟩:=fun {u n} ⟨fp,h1,_,h3⟩=>by
   obtain ⟨cs,hp,hr⟩:=h1
   obtain rfl:=flat_rep (t:=.int) rfl hr
   exact ⟨[],⟨cs,hp,hr⟩,fun _=>ownFp_nil _ _,fun b hb=>by cases hb⟩
  match us,hr with
  | [u1,u2],⟨h1,h2,_⟩=>exact ⟨key h1,key h2,trivial⟩⟩⟩
end Go.Proofs.YtffdhjnbppagjaaGreat.DW

namespace Go.Proofs.YtffdhjnbppagjaaGreat.DW
open Go.RowKit
set_option maxRecDepth 100000 in
set_option maxHeartbeats 8000000 in
theorem lawCheckMotion_fn (x0:DScene) (x1:DPlacement) (x2:DStepS) (x3:DPlacement):Fn Tryz.prog 4 [⟨DW.tScene,x0⟩,⟨DW.tStep,x1⟩,⟨.slice DW.tStep,x2⟩,⟨DW.tStep,x3⟩] false [⟨.bool,true⟩]:=by
 refine fn_enter tabOK mixes Tryz.func4 rfl rfl _ Tryz.ntmps4 _ Tryz.results4 (by simp) fun hwf=>?_
 try simp (maxSteps:=9^9) only[go_sem]
 repeat refine And.intro (by first|omega|(constructor<;>omega)|kernel_rfl) ?_
 refine CallW.mk (szScene_fn x0 1048576 (by omega) (by omega)) ?_
 try simp (maxSteps:=9^9) only[go_sem]
 repeat refine And.intro (by first|omega|(constructor<;>omega)|kernel_rfl) ?_
 have hr0:=szr_lo 1048576 (Go.Proofs.YtffdhjnbppagjaaGreat.tScene x0) (by omega)
 refine CondW_dec (fun hlt=>?_) (fun hge0=>?_)
 ·try simp (maxSteps:=9^9) only[go_sem]
 have hge0':0<=szr 1048576 (Go.Proofs.YtffdhjnbppagjaaGreat.tScene x0):=by omega
 try simp (maxSteps:=9^9) only[go_sem]
 repeat refine And.intro (by first|omega|(constructor<;>omega)|kernel_rfl) ?_
 refine CallW.mk (szPlacement_fn x1 (szr 1048576 (Go.Proofs.YtffdhjnbppagjaaGreat.tScene x0)) (by omega) (by omega)) ?_
 try simp (maxSteps:=9^9) only[go_sem]
 repeat refine And.intro (by first|omega|(constructor<;>omega)|kernel_rfl) ?_
 have hr1:=szr_lo (szr 1048576 (Go.Proofs.YtffdhjnbppagjaaGreat.tScene x0)) (Go.Proofs.YtffdhjnbppagjaaGreat.tPlacement x1) (by omega)
 refine CondW_dec (fun hlt=>?_) (fun hge1=>?_)
 ·try simp (maxSteps:=9^9) only[go_sem]
 have hge1':0<=szr (szr 1048576 (Go.Proofs.YtffdhjnbppagjaaGreat.tScene x0)) (Go.Proofs.YtffdhjnbppagjaaGreat.tPlacement x1):=by omega
 try simp (maxSteps:=9^9) only[go_sem]
 repeat refine And.intro (by first|omega|(constructor<;>omega)|kernel_rfl) ?_
 refine CallW.mk (szStepS_fn x2 (szr (szr 1048576 (Go.Proofs.YtffdhjnbppagjaaGreat.tScene x0)) (Go.Proofs.YtffdhjnbppagjaaGreat.tPlacement x1)) (by omega) (by omega)) ?_
 try simp (maxSteps:=9^9) only[go_sem]
 repeat refine And.intro (by first|omega|(constructor<;>omega)|kernel_rfl) ?_
 have hr2:=szr_lo (szr (szr 1048576 (Go.Proofs.YtffdhjnbppagjaaGreat.tScene x0)) (Go.Proofs.YtffdhjnbppagjaaGreat.tPlacement x1)) ((x2.length+Go.Proofs.YtffdhjnbppagjaaGreat.tStepS x2)) (by omega)
 refine CondW_dec (fun hlt=>?_) (fun hge2=>?_)
 ·try simp (maxSteps:=9^9) only[go_sem]
 have hge2':0<=szr (szr (szr 1048576 (Go.Proofs.YtffdhjnbppagjaaGreat.tScene x0)) (Go.Proofs.YtffdhjnbppagjaaGreat.tPlacement x1)) ((x2.length+Go.Proofs.YtffdhjnbppagjaaGreat.tStepS x2)):=by omega
 try simp (maxSteps:=9^9) only[go_sem]
 repeat refine And.intro (by first|omega|(constructor<;>omega)|kernel_rfl) ?_
 refine CallW.mk (szPlacement_fn x3 (szr (szr (szr 1048576 (Go.Proofs.YtffdhjnbppagjaaGreat.tScene x0)) (Go.Proofs.YtffdhjnbppagjaaGreat.tPlacement x1)) ((x2.length+Go.Proofs.YtffdhjnbppagjaaGreat.tStepS x2))) (by omega) (by omega)) ?_
 try simp (maxSteps:=9^9) only[go_sem]
 repeat refine And.intro (by first|omega|(constructor<;>omega)|kernel_rfl) ?_
 have hr3:=szr_lo (szr (szr (szr 1048576 (Go.Proofs.YtffdhjnbppagjaaGreat.tScene x0)) (Go.Proofs.YtffdhjnbppagjaaGreat.tPlacement x1)) ((x2.length+Go.Proofs.YtffdhjnbppagjaaGreat.tStepS x2))) (Go.Proofs.YtffdhjnbppagjaaGreat.tPlacement x3) (by omega)
 refine CondW_dec (fun hlt=>?_) (fun hge3=>?_)
 ·try simp (maxSteps:=9^9) only[go_sem]
 have hge3':0<=szr (szr (szr (szr 1048576 (Go.Proofs.YtffdhjnbppagjaaGreat.tScene x0)) (Go.Proofs.YtffdhjnbppagjaaGreat.tPlacement x1)) ((x2.length+Go.Proofs.YtffdhjnbppagjaaGreat.tStepS x2))) (Go.Proofs.YtffdhjnbppagjaaGreat.tPlacement x3):=by omega
 have hs0:=(szr_ok hge0').1
 have hs1:=(szr_ok hge1').1
 have hs2:=(szr_ok hge2').1
 have hs3:=(szr_ok hge3').1
 have hle0:Go.Proofs.YtffdhjnbppagjaaGreat.tScene x0<=1048576:=by omega
 have hle1:Go.Proofs.YtffdhjnbppagjaaGreat.tPlacement x1<=1048576:=by omega
 have hle2:(x2.length+Go.Proofs.YtffdhjnbppagjaaGreat.tStepS x2)<=1048576:=by omega
 have hle3:Go.Proofs.YtffdhjnbppagjaaGreat.tPlacement x3<=1048576:=by omega
 clear hr0 hs0 hge0 hge0' hr1 hs1 hge1 hge1' hr2 hs2 hge2 hge2' hr3 hs3 hge3 hge3'
 try simp (maxSteps:=9^9) only[go_sem]
 repeat refine And.intro (by first|omega|(constructor<;>omega)|kernel_rfl) ?_
 refine CallW.mk (toScene_fn x0 hle0) ?_
 try simp (maxSteps:=9^9) only[go_sem]
 repeat refine And.intro (by first|omega|(constructor<;>omega)|kernel_rfl) ?_
 refine CallW.mk (toPlacement_fn x1 hle1) ?_
 try simp (maxSteps:=9^9) only[go_sem]
 repeat refine And.intro (by first|omega|(constructor<;>omega)|kernel_rfl) ?_
 refine CallW.mk (toStepS_fn x2 hle2) ?_
 try simp (maxSteps:=9^9) only[go_sem]
 repeat refine And.intro (by first|omega|(constructor<;>omega)|kernel_rfl) ?_
 refine CallW.mk (toPlacement_fn x3 hle3) ?_
 try simp (maxSteps:=9^9) only[go_sem]
 repeat refine And.intro (by first|omega|(constructor<;>omega)|kernel_rfl) ?_
 refine CallW.t ((CheckMotionS_fn x0 x1 x2 x3).two) ?_
 try simp (maxSteps:=9^9) only[go_sem]
 repeat refine And.intro (by first|omega|(constructor<;>omega)|kernel_rfl) ?_
 refine CallW.mx (toScene_fn x0 hle0) ?_
 try simp (maxSteps:=9^9) only[go_sem]
 repeat refine And.intro (by first|omega|(constructor<;>omega)|kernel_rfl) ?_
 refine CallW.mx (toPlacement_fn x1 hle1) ?_
 try simp (maxSteps:=9^9) only[go_sem]
 repeat refine And.intro (by first|omega|(constructor<;>omega)|kernel_rfl) ?_
 refine CallW.mx (toStepS_fn x2 hle2) ?_
 try simp (maxSteps:=9^9) only[go_sem]
 repeat refine And.intro (by first|omega|(constructor<;>omega)|kernel_rfl) ?_
 refine CallW.mx (toPlacement_fn x3 hle3) ?_
 try simp (maxSteps:=9^9) only[go_sem]
 repeat refine And.intro (by first|omega|(constructor<;>omega)|kernel_rfl) ?_
 refine CallW.t ((CheckMotionI_fn x0 x1 x2 x3).two) ?_
 try simp (maxSteps:=9^9) only[go_sem]
 repeat refine And.intro (by first|omega|(constructor<;>omega)|kernel_rfl) ?_
 refine CallW.mk (toScene_fn x0 hle0) ?_
 try simp (maxSteps:=9^9) only[go_sem]
 repeat refine And.intro (by first|omega|(constructor<;>omega)|kernel_rfl) ?_
 refine CallW.mx (eqScene_fn x0 x0) ?_
 try simp (maxSteps:=9^9) only[go_sem]
 repeat refine And.intro (by first|omega|(constructor<;>omega)|kernel_rfl) ?_
 refine CallW.mk (toPlacement_fn x1 hle1) ?_
 try simp (maxSteps:=9^9) only[go_sem]
 repeat refine And.intro (by first|omega|(constructor<;>omega)|kernel_rfl) ?_
 refine CallW.mx (eqPlacement_fn x1 x1) ?_
 try simp (maxSteps:=9^9) only[go_sem]
 repeat refine And.intro (by first|omega|(constructor<;>omega)|kernel_rfl) ?_
 refine CallW.mk (toStepS_fn x2 hle2) ?_
 try simp (maxSteps:=9^9) only[go_sem]
 repeat refine And.intro (by first|omega|(constructor<;>omega)|kernel_rfl) ?_
 refine CallW.mx (eqStepS_fn x2 x2) ?_
 try simp (maxSteps:=9^9) only[go_sem]
 repeat refine And.intro (by first|omega|(constructor<;>omega)|kernel_rfl) ?_
 refine CallW.mk (toPlacement_fn x3 hle3) ?_
 try simp (maxSteps:=9^9) only[go_sem]
 repeat refine And.intro (by first|omega|(constructor<;>omega)|kernel_rfl) ?_
 refine CallW.mx (eqPlacement_fn x3 x3) ?_
 try simp (maxSteps:=9^9) only[go_sem]
 all_goals repeat refine And.intro (by first|omega|(constructor<;>omega)|kernel_rfl) ?_
 all_goals first|kernel_rfl|omega|rfl
end Go.Proofs.YtffdhjnbppagjaaGreat.DW
namespace Go.Proofs.YtffdhjnbppagjaaGreat
open Go.RowKit DW
theorem law_FnExactCheckMotion (a0_0 a0_1 a0_2 a0_3 a0_4 a0_5 a0_6:Value) (x0:DScene) (a1_0 a1_1 a1_2 a1_3 a1_4 a1_5 a1_6:Value) (x1:DPlacement) (a2:Value) (x2:DStepS) (a3_0 a3_1 a3_2 a3_3 a3_4 a3_5 a3_6:Value) (x3:DPlacement) (w:World) (hx0:Has RScene w [a0_0,a0_1,a0_2,a0_3,a0_4,a0_5,a0_6] x0) (hx1:Has RPlacement w [a1_0,a1_1,a1_2,a1_3,a1_4,a1_5,a1_6] x1) (hx2:Has RStepS w [a2] x2) (hx3:Has RPlacement w [a3_0,a3_1,a3_2,a3_3,a3_4,a3_5,a3_6] x3) :
  Calls Tryz.prog 4 #[.agg #[a0_0,a0_1,a0_2,a0_3,a0_4,a0_5,a0_6],.agg #[a1_0,a1_1,a1_2,a1_3,a1_4,a1_5,a1_6],a2,.agg #[a3_0,a3_1,a3_2,a3_3,a3_4,a3_5,a3_6]] w (Post fun r w'=>r=.bool true/\Below w.heap.size w w') :=
 (DW.lawCheckMotion_fn x0 x1 x2 x3).bool (vs:=[.agg #[a0_0,a0_1,a0_2,a0_3,a0_4,a0_5,a0_6],.agg #[a1_0,a1_1,a1_2,a1_3,a1_4,a1_5,a1_6],a2,.agg #[a3_0,a3_1,a3_2,a3_3,a3_4,a3_5,a3_6]]) ⟨Arg.agg (t:=DW.tScene) (cs:=[a0_0,a0_1,a0_2,a0_3,a0_4,a0_5,a0_6]) rfl hx0,Arg.agg (t:=DW.tStep) (cs:=[a1_0,a1_1,a1_2,a1_3,a1_4,a1_5,a1_6]) rfl hx1,Arg.sl hx2,Arg.agg (t:=DW.tStep) (cs:=[a3_0,a3_1,a3_2,a3_3,a3_4,a3_5,a3_6]) rfl hx3,trivial⟩
end Go.Proofs.YtffdhjnbppagjaaGreat

namespace Go.Proofs.YtffdhjnbppagjaaGreat.DW
open Go.RowKit
theorem szP_of {q:DP} (h:YtffdhjnbppagjaaGreat.tPoint q<=1048576):szP q:=by
 have e:YtffdhjnbppagjaaGreat.tPoint q=q.1.1.2.length+q.1.2.length+(q.2.1.2.length+q.2.2.length):=rfl
 rw [e] at h
 exact ⟨⟨by omega,by omega⟩,by omega,by omega⟩
theorem szP_all:∀ {l:List DS},tStepS l<=1048576->∀ x ∈ l,szP x.2
 | [],_,x,hx=>by cases hx
 | y :: l,h,x,hx=>by
  have e:tStepS (y :: l)=YtffdhjnbppagjaaGreat.tPoint y.2+tStepS l:=rfl
  rw [e] at h
  rcases List.mem_cons.1 hx with rfl|hx
  ·exact szP_of (by omega)
  ·exact szP_all (by omega) x hx
end Go.Proofs.YtffdhjnbppagjaaGreat.DW

namespace Go.Proofs.YtffdhjnbppagjaaGreat.DW
open Go.RowKit
set_option maxRecDepth 100000 in
set_option maxHeartbeats 8000000 in
theorem lawFirstFault_fn (x0:DScene) (x1:DPlacement) (x2:DStepS):Fn Tryz.prog 6 [⟨DW.tScene,x0⟩,⟨DW.tStep,x1⟩,⟨.slice DW.tStep,x2⟩] false [⟨.bool,true⟩]:=by
 refine fn_enter tabOK mixes Tryz.func6 rfl rfl _ Tryz.ntmps6 _ Tryz.results6 (by simp) fun hwf=>?_
 try simp (maxSteps:=9^9) only[go_sem]
 repeat refine And.intro (by first|omega|(constructor<;>omega)|kernel_rfl) ?_
 refine CallW.mk (szScene_fn x0 1048576 (by omega) (by omega)) ?_
 try simp (maxSteps:=9^9) only[go_sem]
 repeat refine And.intro (by first|omega|(constructor<;>omega)|kernel_rfl) ?_
 have hr0:=szr_lo 1048576 (Go.Proofs.YtffdhjnbppagjaaGreat.tScene x0) (by omega)
 refine CondW_dec (fun hlt=>?_) (fun hge0=>?_)
 ·try simp (maxSteps:=9^9) only[go_sem]
 have hge0':0<=szr 1048576 (Go.Proofs.YtffdhjnbppagjaaGreat.tScene x0):=by omega
 try simp (maxSteps:=9^9) only[go_sem]
 repeat refine And.intro (by first|omega|(constructor<;>omega)|kernel_rfl) ?_
 refine CallW.mk (szPlacement_fn x1 (szr 1048576 (Go.Proofs.YtffdhjnbppagjaaGreat.tScene x0)) (by omega) (by omega)) ?_
 try simp (maxSteps:=9^9) only[go_sem]
 repeat refine And.intro (by first|omega|(constructor<;>omega)|kernel_rfl) ?_
 have hr1:=szr_lo (szr 1048576 (Go.Proofs.YtffdhjnbppagjaaGreat.tScene x0)) (Go.Proofs.YtffdhjnbppagjaaGreat.tPlacement x1) (by omega)
 refine CondW_dec (fun hlt=>?_) (fun hge1=>?_)
 ·try simp (maxSteps:=9^9) only[go_sem]
 have hge1':0<=szr (szr 1048576 (Go.Proofs.YtffdhjnbppagjaaGreat.tScene x0)) (Go.Proofs.YtffdhjnbppagjaaGreat.tPlacement x1):=by omega
 try simp (maxSteps:=9^9) only[go_sem]
 repeat refine And.intro (by first|omega|(constructor<;>omega)|kernel_rfl) ?_
 refine CallW.mk (szStepS_fn x2 (szr (szr 1048576 (Go.Proofs.YtffdhjnbppagjaaGreat.tScene x0)) (Go.Proofs.YtffdhjnbppagjaaGreat.tPlacement x1)) (by omega) (by omega)) ?_
 try simp (maxSteps:=9^9) only[go_sem]
 repeat refine And.intro (by first|omega|(constructor<;>omega)|kernel_rfl) ?_
 have hr2:=szr_lo (szr (szr 1048576 (Go.Proofs.YtffdhjnbppagjaaGreat.tScene x0)) (Go.Proofs.YtffdhjnbppagjaaGreat.tPlacement x1)) ((x2.length+Go.Proofs.YtffdhjnbppagjaaGreat.tStepS x2)) (by omega)
 refine CondW_dec (fun hlt=>?_) (fun hge2=>?_)
 ·try simp (maxSteps:=9^9) only[go_sem]
 have hge2':0<=szr (szr (szr 1048576 (Go.Proofs.YtffdhjnbppagjaaGreat.tScene x0)) (Go.Proofs.YtffdhjnbppagjaaGreat.tPlacement x1)) ((x2.length+Go.Proofs.YtffdhjnbppagjaaGreat.tStepS x2)):=by omega
 have hs0:=(szr_ok hge0').1
 have hs1:=(szr_ok hge1').1
 have hs2:=(szr_ok hge2').1
 have hle0:Go.Proofs.YtffdhjnbppagjaaGreat.tScene x0<=1048576:=by omega
 have hle1:Go.Proofs.YtffdhjnbppagjaaGreat.tPlacement x1<=1048576:=by omega
 have hle2:(x2.length+Go.Proofs.YtffdhjnbppagjaaGreat.tStepS x2)<=1048576:=by omega
 clear hr0 hs0 hge0 hge0' hr1 hs1 hge1 hge1' hr2 hs2 hge2 hge2'
 have hz:szP (plcF x1 x2).2:=szP_F (szP_of hle1) (szP_all (by omega))
 try simp (maxSteps:=9^9) only[go_sem]
 repeat refine And.intro (by first|omega|(constructor<;>omega)|kernel_rfl) ?_
 refine CallW.mk (toScene_fn x0 hle0) ?_
 try simp (maxSteps:=9^9) only[go_sem]
 repeat refine And.intro (by first|omega|(constructor<;>omega)|kernel_rfl) ?_
 refine CallW.mk (toPlacement_fn x1 hle1) ?_
 try simp (maxSteps:=9^9) only[go_sem]
 repeat refine And.intro (by first|omega|(constructor<;>omega)|kernel_rfl) ?_
 refine CallW.mk (toStepS_fn x2 hle2) ?_
 try simp (maxSteps:=9^9) only[go_sem]
 repeat refine And.intro (by first|omega|(constructor<;>omega)|kernel_rfl) ?_
 refine CallW.mk (FirstFaultS_fn x0 x1 x2 hz) ?_
 try simp (maxSteps:=9^9) only[go_sem]
 repeat refine And.intro (by first|omega|(constructor<;>omega)|kernel_rfl) ?_
 refine CallW.mx (toScene_fn x0 hle0) ?_
 try simp (maxSteps:=9^9) only[go_sem]
 repeat refine And.intro (by first|omega|(constructor<;>omega)|kernel_rfl) ?_
 refine CallW.mx (toPlacement_fn x1 hle1) ?_
 try simp (maxSteps:=9^9) only[go_sem]
 repeat refine And.intro (by first|omega|(constructor<;>omega)|kernel_rfl) ?_
 refine CallW.mx (toStepS_fn x2 hle2) ?_
 try simp (maxSteps:=9^9) only[go_sem]
 repeat refine And.intro (by first|omega|(constructor<;>omega)|kernel_rfl) ?_
 refine CallW.mx (FirstFaultI_fn x0 x1 x2) ?_
 try simp (maxSteps:=9^9) only[go_sem]
 repeat refine And.intro (by first|omega|(constructor<;>omega)|kernel_rfl) ?_
 refine CallW.mk (toScene_fn x0 hle0) ?_
 try simp (maxSteps:=9^9) only[go_sem]
 repeat refine And.intro (by first|omega|(constructor<;>omega)|kernel_rfl) ?_
 refine CallW.mx (eqScene_fn x0 x0) ?_
 try simp (maxSteps:=9^9) only[go_sem]
 repeat refine And.intro (by first|omega|(constructor<;>omega)|kernel_rfl) ?_
 refine CallW.mk (toPlacement_fn x1 hle1) ?_
 try simp (maxSteps:=9^9) only[go_sem]
 repeat refine And.intro (by first|omega|(constructor<;>omega)|kernel_rfl) ?_
 refine CallW.mx (eqPlacement_fn x1 x1) ?_
 try simp (maxSteps:=9^9) only[go_sem]
 repeat refine And.intro (by first|omega|(constructor<;>omega)|kernel_rfl) ?_
 refine CallW.mk (toStepS_fn x2 hle2) ?_
 try simp (maxSteps:=9^9) only[go_sem]
 repeat refine And.intro (by first|omega|(constructor<;>omega)|kernel_rfl) ?_
 refine CallW.mx (eqStepS_fn x2 x2) ?_
 try simp (maxSteps:=9^9) only[go_sem]
 all_goals repeat refine And.intro (by first|omega|(constructor<;>omega)|kernel_rfl) ?_
 all_goals first|kernel_rfl|omega|rfl
end Go.Proofs.YtffdhjnbppagjaaGreat.DW
namespace Go.Proofs.YtffdhjnbppagjaaGreat
open Go.RowKit DW
theorem law_FnExactFirstFault (a0_0 a0_1 a0_2 a0_3 a0_4 a0_5 a0_6:Value) (x0:DScene) (a1_0 a1_1 a1_2 a1_3 a1_4 a1_5 a1_6:Value) (x1:DPlacement) (a2:Value) (x2:DStepS) (w:World) (hx0:Has RScene w [a0_0,a0_1,a0_2,a0_3,a0_4,a0_5,a0_6] x0) (hx1:Has RPlacement w [a1_0,a1_1,a1_2,a1_3,a1_4,a1_5,a1_6] x1) (hx2:Has RStepS w [a2] x2) :
  Calls Tryz.prog 6 #[.agg #[a0_0,a0_1,a0_2,a0_3,a0_4,a0_5,a0_6],.agg #[a1_0,a1_1,a1_2,a1_3,a1_4,a1_5,a1_6],a2] w (Post fun r w'=>r=.bool true/\Below w.heap.size w w') :=
 (DW.lawFirstFault_fn x0 x1 x2).bool (vs:=[.agg #[a0_0,a0_1,a0_2,a0_3,a0_4,a0_5,a0_6],.agg #[a1_0,a1_1,a1_2,a1_3,a1_4,a1_5,a1_6],a2]) ⟨Arg.agg (t:=DW.tScene) (cs:=[a0_0,a0_1,a0_2,a0_3,a0_4,a0_5,a0_6]) rfl hx0,Arg.agg (t:=DW.tStep) (cs:=[a1_0,a1_1,a1_2,a1_3,a1_4,a1_5,a1_6]) rfl hx1,Arg.sl hx2,trivial⟩
end Go.Proofs.YtffdhjnbppagjaaGreat
