/-
  Texts of a proof, one behind another: Dw29, Dw30, Dw31, Dw32, Dw33, Dw34, Rept, Dw35, Dw70, SzP, Dw71, Dw72, LawIsShortest, MarkT, MarkS, CnSh, LawShortenMotion.
-/
import Derived.Shelf.Bits.Mul64
import Derived.Laws.CopyOwn
import Derived.Deep.LoopGhost
import Derived.Test.YtffdhjnbppagjaaGreatKB6
set_option linter.all false
namespace Go.Proofs.YtffdhjnbppagjaaGreat.DW
open Go.RowKit
end Go.Proofs.YtffdhjnbppagjaaGreat.DW

namespace Go.Proofs.YtffdhjnbppagjaaGreat.DW
open Go.RowKit
attribute [go_sem] argV
end Go.Proofs.YtffdhjnbppagjaaGreat.DW

namespace Go.Proofs.YtffdhjnbppagjaaGreat.DW
open Go.RowKit
end Go.Proofs.YtffdhjnbppagjaaGreat.DW

namespace Go.Proofs.YtffdhjnbppagjaaGreat.DW
open Go.RowKit
end Go.Proofs.YtffdhjnbppagjaaGreat.DW

namespace Go.Proofs.YtffdhjnbppagjaaGreat.DW
open Go.RowKit
end Go.Proofs.YtffdhjnbppagjaaGreat.DW

namespace Go.Proofs.YtffdhjnbppagjaaGreat.DW
open Go.RowKit
end Go.Proofs.YtffdhjnbppagjaaGreat.DW

namespace Go.Proofs.YtffdhjnbppagjaaGreat
open Go.RowKit Go.Lib
end Go.Proofs.YtffdhjnbppagjaaGreat
namespace Go.Proofs.YtffdhjnbppagjaaGreat.DW
open Go.RowKit
end Go.Proofs.YtffdhjnbppagjaaGreat.DW

namespace Go.Proofs.YtffdhjnbppagjaaGreat.DW
open Go.RowKit
def szP (p:DP):Prop:=(p.1.1.2.length<=1048576/\p.1.2.length<=1048576)/\(p.2.1.2.length<=1048576/\p.2.2.length<=1048576)
theorem ownPointS_fn (p:DP) (h:szP p):Fn Tryz.prog 192 [⟨tPoint,p⟩] true [⟨tPoint,p⟩]:=by
 obtain ⟨⟨h1,h2⟩,h3,h4⟩:=h
 have c1:=ownRat_fn p.1 (by omega) (by omega)
 have c2:=ownRat_fn p.2 (by omega) (by omega)
 refine fn_enter tabOK mixes Tryz.func192 rfl rfl _ Tryz.ntmps192 _ Tryz.results192 (by simp) fun hwf=>?_
 try simp (maxSteps:=9^9) only[go_sem]
 repeat refine And.intro (by first|omega|(constructor<;>omega)|kernel_rfl) ?_
 refine CallW.mk (c1) ?_
 try simp (maxSteps:=9^9) only[go_sem]
 repeat refine And.intro (by first|omega|(constructor<;>omega)|kernel_rfl) ?_
 refine CallW.mk (c2) ?_
 try simp (maxSteps:=9^9) only[go_sem]
 all_goals repeat refine And.intro (by first|omega|(constructor<;>omega)|kernel_rfl) ?_
 all_goals first|kernel_rfl|omega|rfl
theorem l05CopyS_fn (p:DP) (h:szP p):Fn Tryz.prog 111 [⟨tPoint,p⟩] true [⟨tPoint,p⟩]:=by
 obtain ⟨⟨h1,h2⟩,h3,h4⟩:=h
 have c1:=l04Copy_fn p.1 (by omega) (by omega)
 have c2:=l04Copy_fn p.2 (by omega) (by omega)
 refine fn_enter tabOK mixes Tryz.func111 rfl rfl _ Tryz.ntmps111 _ Tryz.results111 (by simp) fun hwf=>?_
 try simp (maxSteps:=9^9) only[go_sem]
 repeat refine And.intro (by first|omega|(constructor<;>omega)|kernel_rfl) ?_
 refine CallW.mk (c1) ?_
 try simp (maxSteps:=9^9) only[go_sem]
 repeat refine And.intro (by first|omega|(constructor<;>omega)|kernel_rfl) ?_
 refine CallW.mk (c2) ?_
 try simp (maxSteps:=9^9) only[go_sem]
 all_goals repeat refine And.intro (by first|omega|(constructor<;>omega)|kernel_rfl) ?_
 all_goals first|kernel_rfl|omega|rfl
end Go.Proofs.YtffdhjnbppagjaaGreat.DW

namespace Go.Proofs.YtffdhjnbppagjaaGreat.DW
open Go.RowKit
theorem szP_stp {p x:DS} (hp:szP p.2) (hx:szP x.2):szP (stp p x).2:=by
 unfold stp
 split
 ·exact hx
 ·split
  ·exact hp
  ·exact hp
theorem szP_F {l:List DS}:∀ {p:DS},szP p.2->(∀ x ∈ l,szP x.2)->szP (plcF p l).2:=by
 induction l with
 | nil=>intro p hp _; exact hp
 | cons x l ih=>intro p hp h; exact ih (p:=stp p x) (szP_stp hp (h x List.mem_cons_self)) fun y hy=>h y (List.mem_cons_of_mem _ hy)
theorem PlacementAfterZ_fn (p:DS) (l:List DS) (h:szP (plcF p l).2):Fn Tryz.prog 106 [⟨tStep,p⟩,⟨.slice tStep,l⟩,⟨.int,l.length⟩] true [⟨tStep,plcF p l⟩]:=by
 have hk:∀ i,i<=l.length->clip (l.length:Int) i=i:=fun i hi=>by unfold clip; omega
 have c2:=l05CopyS_fn _ h
 refine fn_enter tabOK mixes Tryz.func106 rfl rfl _ Tryz.ntmps106 _ Tryz.results106 (by simp) fun hwf=>?_
 have hl:l.length<=9223372036854775807:=(hwf ⟨.slice tStep,l⟩ (by simp)).1
 try simp (maxSteps:=9^9) only[go_sem]
 refine LoopG.intro _ _ _ (fun i:Nat=>⟨[(2,.sc (.int .i64 l.length)),(3,.ptr 0 0),(6,.ptr 1 0),(9,.sl tStep l),(10,.sc (.int .i64 l.length)),(11,.sc (.int .i64 i))],[(1,.box [.sc (.int .i64 0),.sc (.bool false),.sc (.slice none 0 0),.sc (.slice none 0 0),.sc (.bool false),.sc (.slice none 0 0),.sc (.slice none 0 0)]),(0,.box (cel tStep (plcS p l i)))]⟩) (fun i=>i<=l.length) (fun i=>l.length - i) 0 ?_ (Nat.zero_le _) ?_
 ·rw [show plcS p l 0=p from rfl]
  refine Wk.mk [] ?_
  try simp (maxSteps:=9^9) only[go_sem]
  try (and_intros<;>first|rfl|omega|exact ⟨_,rfl⟩)
 ·rintro i hi
  try simp (maxSteps:=9^9) only[go_sem]
  refine CondW_dec (fun hA=>?_) (fun hA=>?_)
  ·try simp (maxSteps:=9^9) only[go_sem]
   repeat refine And.intro (by first|omega|(constructor<;>omega)|kernel_rfl) ?_
   refine CondW_dec (fun hB=>?_) (fun hB=>absurd hA hB)
   have hst:=plcS_step p (show i < l.length by omega)
   have c1:=l22After_fn (plcS p l i) (nth (t:=tStep) l i)
   try simp (maxSteps:=9^9) only[go_sem]
   repeat refine And.intro (by first|omega|(constructor<;>omega)|kernel_rfl) ?_
   refine CallW.mk (c1) ?_
   try simp (maxSteps:=9^9) only[go_sem]
   repeat refine And.intro (by first|omega|(constructor<;>omega)|kernel_rfl) ?_
   refine LoopK.mk (i+1) ?_ (by omega) (by omega)
   rw [hst]
   refine Wk.mk [] ?_
   try simp (maxSteps:=9^9) only[go_sem]
   try (and_intros<;>first|rfl|omega|exact ⟨_,rfl⟩)
  ·have e:plcF p l=plcS p l i:=by unfold plcS; rw [List.take_of_length_le (by omega)]
   rw [e] at c2 ⊢
   generalize plcS p l i=q at c2 ⊢
   try simp (maxSteps:=9^9) only[go_sem]
   repeat refine And.intro (by first|omega|(constructor<;>omega)|kernel_rfl) ?_
   refine CallW.mk (c2) ?_
   try simp (maxSteps:=9^9) only[go_sem]
   all_goals repeat refine And.intro (by first|omega|(constructor<;>omega)|kernel_rfl) ?_
   all_goals first|kernel_rfl|omega|rfl
theorem afterAll_fn (p:DS) (l:List DS):Fn Tryz.prog 107 [⟨tStep,p⟩,⟨.slice tStep,l⟩,⟨.int,l.length⟩] false [⟨tStep,plcF p l⟩]:=by
 have h:=after_fn p l l.length
 rw [show clip (l.length:Int) l.length=l.length by unfold clip; omega,show plcS p l l.length=plcF p l by unfold plcS; rw [List.take_length]] at h
 exact h
theorem ckD_codes (s:DSc) (p:DS) (l:List DS) (q:DS):(ckD s p l q).1=0\/(ckD s p l q).1=1\/(ckD s p l q).1=2\/(ckD s p l q).1=3\/(ckD s p l q).1=4\/(ckD s p l q).1=5\/(ckD s p l q).1=6:=by
 have hgo:∀ (l:List DS) (p:DS) (i:Nat) (r:Int × Int),ckGo s p l i=some r->r.1=3\/r.1=4\/r.1=5:=by
  intro l
  induction l with
  | nil=>intro p i r h; cases h
  | cons x l ih =>
   intro p i r h
   unfold ckGo at h
   split at h
   ·exact ih _ _ _ h
   ·rename_i h0
    injection h with h
    subst h
    have:=fltD_codes s p x
    simp only
    omega
 unfold ckD
 split
 ·split
  ·split
   ·rename_i r hr
    have:=hgo _ _ _ _ hr
    omega
   ·split<;>simp
  ·simp
 ·simp
theorem ff_1 {s:DSc} {p:DS} {l:List DS} (h:(ckD s p l (plcF p l)).1=1\/(ckD s p l (plcF p l)).1=2):ffD s p l=-1:=if_pos h
theorem ff_2 {s:DSc} {p:DS} {l:List DS} (h:(ckD s p l (plcF p l)).1=3\/(ckD s p l (plcF p l)).1=4\/(ckD s p l (plcF p l)).1=5):ffD s p l=(ckD s p l (plcF p l)).2:=by
 unfold ffD
 rw [if_neg (by omega),if_pos h]
theorem ff_3 {s:DSc} {p:DS} {l:List DS} (h:(ckD s p l (plcF p l)).1=0\/(ckD s p l (plcF p l)).1=6):ffD s p l=l.length:=by
 unfold ffD
 rw [if_neg (by omega),if_neg (by omega)]
theorem FirstFaultI_fn (s:DSc) (p:DS) (l:List DS):Fn Tryz.prog 35 [⟨tScene,s⟩,⟨tStep,p⟩,⟨.slice tStep,l⟩] false [⟨.int,ffD s p l⟩]:=by
 have c1:=afterAll_fn p l
 have c2:=CheckMotionI_fn s p l (plcF p l)
 have hc:=ckD_codes s p l (plcF p l)
 rcases hc with h|h|h|h|h|h|h
 ·rw [ff_3 (.inl h)]
  rw [h] at c2
  refine fn_enter tabOK mixes Tryz.func35 rfl rfl _ Tryz.ntmps35 _ Tryz.results35 (by simp) fun hwf=>?_
  have hl:l.length<=9223372036854775807:=(hwf ⟨.slice tStep,l⟩ (by simp)).1
  try simp (maxSteps:=9^9) only[go_sem]
  repeat refine And.intro (by first|omega|(constructor<;>omega)|kernel_rfl) ?_
  refine CallW.mk (c1) ?_
  try simp (maxSteps:=9^9) only[go_sem]
  repeat refine And.intro (by first|omega|(constructor<;>omega)|kernel_rfl) ?_
  refine CallW.mk (c2) ?_
  try simp (maxSteps:=9^9) only[go_sem]
  all_goals repeat refine And.intro (by first|omega|(constructor<;>omega)|kernel_rfl) ?_
  all_goals first|kernel_rfl|omega|rfl
 ·rw [ff_1 (.inl h)]
  rw [h] at c2
  refine fn_enter tabOK mixes Tryz.func35 rfl rfl _ Tryz.ntmps35 _ Tryz.results35 (by simp) fun hwf=>?_
  have hl:l.length<=9223372036854775807:=(hwf ⟨.slice tStep,l⟩ (by simp)).1
  try simp (maxSteps:=9^9) only[go_sem]
  repeat refine And.intro (by first|omega|(constructor<;>omega)|kernel_rfl) ?_
  refine CallW.mk (c1) ?_
  try simp (maxSteps:=9^9) only[go_sem]
  repeat refine And.intro (by first|omega|(constructor<;>omega)|kernel_rfl) ?_
  refine CallW.mk (c2) ?_
  try simp (maxSteps:=9^9) only[go_sem]
  all_goals repeat refine And.intro (by first|omega|(constructor<;>omega)|kernel_rfl) ?_
  all_goals first|kernel_rfl|omega|rfl
 ·rw [ff_1 (.inr h)]
  rw [h] at c2
  refine fn_enter tabOK mixes Tryz.func35 rfl rfl _ Tryz.ntmps35 _ Tryz.results35 (by simp) fun hwf=>?_
  have hl:l.length<=9223372036854775807:=(hwf ⟨.slice tStep,l⟩ (by simp)).1
  try simp (maxSteps:=9^9) only[go_sem]
  repeat refine And.intro (by first|omega|(constructor<;>omega)|kernel_rfl) ?_
  refine CallW.mk (c1) ?_
  try simp (maxSteps:=9^9) only[go_sem]
  repeat refine And.intro (by first|omega|(constructor<;>omega)|kernel_rfl) ?_
  refine CallW.mk (c2) ?_
  try simp (maxSteps:=9^9) only[go_sem]
  all_goals repeat refine And.intro (by first|omega|(constructor<;>omega)|kernel_rfl) ?_
  all_goals first|kernel_rfl|omega|rfl
 ·rw [ff_2 (.inl h)]
  rw [h] at c2
  refine fn_enter tabOK mixes Tryz.func35 rfl rfl _ Tryz.ntmps35 _ Tryz.results35 (by simp) fun hwf=>?_
  have hl:l.length<=9223372036854775807:=(hwf ⟨.slice tStep,l⟩ (by simp)).1
  try simp (maxSteps:=9^9) only[go_sem]
  repeat refine And.intro (by first|omega|(constructor<;>omega)|kernel_rfl) ?_
  refine CallW.mk (c1) ?_
  try simp (maxSteps:=9^9) only[go_sem]
  repeat refine And.intro (by first|omega|(constructor<;>omega)|kernel_rfl) ?_
  refine CallW.mk (c2) ?_
  try simp (maxSteps:=9^9) only[go_sem]
  all_goals repeat refine And.intro (by first|omega|(constructor<;>omega)|kernel_rfl) ?_
  all_goals first|kernel_rfl|omega|rfl
 ·rw [ff_2 (.inr (.inl h))]
  rw [h] at c2
  refine fn_enter tabOK mixes Tryz.func35 rfl rfl _ Tryz.ntmps35 _ Tryz.results35 (by simp) fun hwf=>?_
  have hl:l.length<=9223372036854775807:=(hwf ⟨.slice tStep,l⟩ (by simp)).1
  try simp (maxSteps:=9^9) only[go_sem]
  repeat refine And.intro (by first|omega|(constructor<;>omega)|kernel_rfl) ?_
  refine CallW.mk (c1) ?_
  try simp (maxSteps:=9^9) only[go_sem]
  repeat refine And.intro (by first|omega|(constructor<;>omega)|kernel_rfl) ?_
  refine CallW.mk (c2) ?_
  try simp (maxSteps:=9^9) only[go_sem]
  all_goals repeat refine And.intro (by first|omega|(constructor<;>omega)|kernel_rfl) ?_
  all_goals first|kernel_rfl|omega|rfl
 ·rw [ff_2 (.inr (.inr h))]
  rw [h] at c2
  refine fn_enter tabOK mixes Tryz.func35 rfl rfl _ Tryz.ntmps35 _ Tryz.results35 (by simp) fun hwf=>?_
  have hl:l.length<=9223372036854775807:=(hwf ⟨.slice tStep,l⟩ (by simp)).1
  try simp (maxSteps:=9^9) only[go_sem]
  repeat refine And.intro (by first|omega|(constructor<;>omega)|kernel_rfl) ?_
  refine CallW.mk (c1) ?_
  try simp (maxSteps:=9^9) only[go_sem]
  repeat refine And.intro (by first|omega|(constructor<;>omega)|kernel_rfl) ?_
  refine CallW.mk (c2) ?_
  try simp (maxSteps:=9^9) only[go_sem]
  all_goals repeat refine And.intro (by first|omega|(constructor<;>omega)|kernel_rfl) ?_
  all_goals first|kernel_rfl|omega|rfl
 ·rw [ff_3 (.inr h)]
  rw [h] at c2
  refine fn_enter tabOK mixes Tryz.func35 rfl rfl _ Tryz.ntmps35 _ Tryz.results35 (by simp) fun hwf=>?_
  have hl:l.length<=9223372036854775807:=(hwf ⟨.slice tStep,l⟩ (by simp)).1
  try simp (maxSteps:=9^9) only[go_sem]
  repeat refine And.intro (by first|omega|(constructor<;>omega)|kernel_rfl) ?_
  refine CallW.mk (c1) ?_
  try simp (maxSteps:=9^9) only[go_sem]
  repeat refine And.intro (by first|omega|(constructor<;>omega)|kernel_rfl) ?_
  refine CallW.mk (c2) ?_
  try simp (maxSteps:=9^9) only[go_sem]
  all_goals repeat refine And.intro (by first|omega|(constructor<;>omega)|kernel_rfl) ?_
  all_goals first|kernel_rfl|omega|rfl
theorem FirstFaultS_fn (s:DSc) (p:DS) (l:List DS) (hz:szP (plcF p l).2):Fn Tryz.prog 34 [⟨tScene,s⟩,⟨tStep,p⟩,⟨.slice tStep,l⟩] false [⟨.int,ffD s p l⟩]:=by
 have c1:=(PlacementAfterZ_fn p l hz).sh
 have c2:=CheckMotionS_fn s p l (plcF p l)
 have hc:=ckD_codes s p l (plcF p l)
 rcases hc with h|h|h|h|h|h|h
 ·rw [ff_3 (.inl h)]
  rw [h] at c2
  refine fn_enter tabOK mixes Tryz.func34 rfl rfl _ Tryz.ntmps34 _ Tryz.results34 (by simp) fun hwf=>?_
  have hl:l.length<=9223372036854775807:=(hwf ⟨.slice tStep,l⟩ (by simp)).1
  try simp (maxSteps:=9^9) only[go_sem]
  repeat refine And.intro (by first|omega|(constructor<;>omega)|kernel_rfl) ?_
  refine CallW.mk (c1) ?_
  try simp (maxSteps:=9^9) only[go_sem]
  repeat refine And.intro (by first|omega|(constructor<;>omega)|kernel_rfl) ?_
  refine CallW.mk (c2) ?_
  try simp (maxSteps:=9^9) only[go_sem]
  all_goals repeat refine And.intro (by first|omega|(constructor<;>omega)|kernel_rfl) ?_
  all_goals first|kernel_rfl|omega|rfl
 ·rw [ff_1 (.inl h)]
  rw [h] at c2
  refine fn_enter tabOK mixes Tryz.func34 rfl rfl _ Tryz.ntmps34 _ Tryz.results34 (by simp) fun hwf=>?_
  have hl:l.length<=9223372036854775807:=(hwf ⟨.slice tStep,l⟩ (by simp)).1
  try simp (maxSteps:=9^9) only[go_sem]
  repeat refine And.intro (by first|omega|(constructor<;>omega)|kernel_rfl) ?_
  refine CallW.mk (c1) ?_
  try simp (maxSteps:=9^9) only[go_sem]
  repeat refine And.intro (by first|omega|(constructor<;>omega)|kernel_rfl) ?_
  refine CallW.mk (c2) ?_
  try simp (maxSteps:=9^9) only[go_sem]
  all_goals repeat refine And.intro (by first|omega|(constructor<;>omega)|kernel_rfl) ?_
  all_goals first|kernel_rfl|omega|rfl
 ·rw [ff_1 (.inr h)]
  rw [h] at c2
  refine fn_enter tabOK mixes Tryz.func34 rfl rfl _ Tryz.ntmps34 _ Tryz.results34 (by simp) fun hwf=>?_
  have hl:l.length<=9223372036854775807:=(hwf ⟨.slice tStep,l⟩ (by simp)).1
  try simp (maxSteps:=9^9) only[go_sem]
  repeat refine And.intro (by first|omega|(constructor<;>omega)|kernel_rfl) ?_
  refine CallW.mk (c1) ?_
  try simp (maxSteps:=9^9) only[go_sem]
  repeat refine And.intro (by first|omega|(constructor<;>omega)|kernel_rfl) ?_
  refine CallW.mk (c2) ?_
  try simp (maxSteps:=9^9) only[go_sem]
  all_goals repeat refine And.intro (by first|omega|(constructor<;>omega)|kernel_rfl) ?_
  all_goals first|kernel_rfl|omega|rfl
 ·rw [ff_2 (.inl h)]
  rw [h] at c2
  refine fn_enter tabOK mixes Tryz.func34 rfl rfl _ Tryz.ntmps34 _ Tryz.results34 (by simp) fun hwf=>?_
  have hl:l.length<=9223372036854775807:=(hwf ⟨.slice tStep,l⟩ (by simp)).1
  try simp (maxSteps:=9^9) only[go_sem]
  repeat refine And.intro (by first|omega|(constructor<;>omega)|kernel_rfl) ?_
  refine CallW.mk (c1) ?_
  try simp (maxSteps:=9^9) only[go_sem]
  repeat refine And.intro (by first|omega|(constructor<;>omega)|kernel_rfl) ?_
  refine CallW.mk (c2) ?_
  try simp (maxSteps:=9^9) only[go_sem]
  all_goals repeat refine And.intro (by first|omega|(constructor<;>omega)|kernel_rfl) ?_
  all_goals first|kernel_rfl|omega|rfl
 ·rw [ff_2 (.inr (.inl h))]
  rw [h] at c2
  refine fn_enter tabOK mixes Tryz.func34 rfl rfl _ Tryz.ntmps34 _ Tryz.results34 (by simp) fun hwf=>?_
  have hl:l.length<=9223372036854775807:=(hwf ⟨.slice tStep,l⟩ (by simp)).1
  try simp (maxSteps:=9^9) only[go_sem]
  repeat refine And.intro (by first|omega|(constructor<;>omega)|kernel_rfl) ?_
  refine CallW.mk (c1) ?_
  try simp (maxSteps:=9^9) only[go_sem]
  repeat refine And.intro (by first|omega|(constructor<;>omega)|kernel_rfl) ?_
  refine CallW.mk (c2) ?_
  try simp (maxSteps:=9^9) only[go_sem]
  all_goals repeat refine And.intro (by first|omega|(constructor<;>omega)|kernel_rfl) ?_
  all_goals first|kernel_rfl|omega|rfl
 ·rw [ff_2 (.inr (.inr h))]
  rw [h] at c2
  refine fn_enter tabOK mixes Tryz.func34 rfl rfl _ Tryz.ntmps34 _ Tryz.results34 (by simp) fun hwf=>?_
  have hl:l.length<=9223372036854775807:=(hwf ⟨.slice tStep,l⟩ (by simp)).1
  try simp (maxSteps:=9^9) only[go_sem]
  repeat refine And.intro (by first|omega|(constructor<;>omega)|kernel_rfl) ?_
  refine CallW.mk (c1) ?_
  try simp (maxSteps:=9^9) only[go_sem]
  repeat refine And.intro (by first|omega|(constructor<;>omega)|kernel_rfl) ?_
  refine CallW.mk (c2) ?_
  try simp (maxSteps:=9^9) only[go_sem]
  all_goals repeat refine And.intro (by first|omega|(constructor<;>omega)|kernel_rfl) ?_
  all_goals first|kernel_rfl|omega|rfl
 ·rw [ff_3 (.inr h)]
  rw [h] at c2
  refine fn_enter tabOK mixes Tryz.func34 rfl rfl _ Tryz.ntmps34 _ Tryz.results34 (by simp) fun hwf=>?_
  have hl:l.length<=9223372036854775807:=(hwf ⟨.slice tStep,l⟩ (by simp)).1
  try simp (maxSteps:=9^9) only[go_sem]
  repeat refine And.intro (by first|omega|(constructor<;>omega)|kernel_rfl) ?_
  refine CallW.mk (c1) ?_
  try simp (maxSteps:=9^9) only[go_sem]
  repeat refine And.intro (by first|omega|(constructor<;>omega)|kernel_rfl) ?_
  refine CallW.mk (c2) ?_
  try simp (maxSteps:=9^9) only[go_sem]
  all_goals repeat refine And.intro (by first|omega|(constructor<;>omega)|kernel_rfl) ?_
  all_goals first|kernel_rfl|omega|rfl
theorem Fn.two {P:Program} {f:FuncId} {args:List Dat} {own:Bool} {a b:Int} (h:Fn P f args own [⟨.int,a⟩,⟨.int,b⟩]):FnT P f args [⟨.int,a⟩,⟨.int,b⟩] :=
 ⟨h.1,fun w vs S ha=>(h.2 w vs S ha).mono fun en w' ⟨hb,v,he,us,hv,hr⟩=>⟨hb,us,by rw [he,hv],by
  have key:∀ {u:Value} {n:Int},DRes false w.heap.size S w' u ⟨.int,n⟩->DRes true w.heap.size S w' u ⟨.int,n⟩:=fun {u n} ⟨fp,h1,_,h3⟩=>by
   obtain ⟨cs,hp,hr⟩:=h1
   obtain rfl:=flat_rep (t:=.int) rfl hr
   exact ⟨[],⟨cs,hp,hr⟩,fun _=>ownFp_nil _ _,fun b hb=>by cases hb⟩
  match us,hr with
  | [u1,u2],⟨h1,h2,_⟩=>exact ⟨key h1,key h2,trivial⟩⟩⟩
end Go.Proofs.YtffdhjnbppagjaaGreat.DW

namespace Go.Proofs.YtffdhjnbppagjaaGreat.DW
open Go.RowKit
theorem szP_of {q:DP} (h:YtffdhjnbppagjaaGreat.tPoint q<=1048576):szP q:=by
 have e:YtffdhjnbppagjaaGreat.tPoint q=q.1.1.2.length+q.1.2.length+(q.2.1.2.length+q.2.2.length):=rfl
 rw [e] at h
 exact ⟨⟨by omega,by omega⟩,by omega,by omega⟩
theorem szP_all:∀ {l:List DS},tStepS l<=1048576->∀ x ∈ l,szP x.2
 | [],_,x,hx=>by cases hx
 | y :: l,h,x,hx=>by
  have e:tStepS (y :: l)=YtffdhjnbppagjaaGreat.tPoint y.2+tStepS l:=rfl
  rw [e] at h
  rcases List.mem_cons.1 hx with rfl|hx
  ·exact szP_of (by omega)
  ·exact szP_all (by omega) x hx
end Go.Proofs.YtffdhjnbppagjaaGreat.DW

namespace Go.Proofs.YtffdhjnbppagjaaGreat.DW
open Go.RowKit
set_option maxRecDepth 100000 in
set_option maxHeartbeats 1000000 in
theorem ownStepsZ_fn (l:List DS) (hl:∀ x ∈ l,szP x.2) (hn:l.length<=1048576):Fn Tryz.prog 112 [⟨.slice tStep,l⟩] true [⟨.slice tStep,l⟩]:=by
 refine fn_enter tabOK mixes Tryz.func112 rfl rfl _ Tryz.ntmps112 _ Tryz.results112 (by simp) fun hwf=>?_
 try simp (maxSteps:=9^9) only[go_sem]
 repeat refine And.intro (by first|omega|(constructor<;>omega)|kernel_rfl) ?_
 refine LoopG.intro _ _ _ (fun i:Nat=>⟨[(3,.row 0 0),(7,.sl tStep l),(8,.sc (.int .i64 l.length)),(9,.sc (.int .i64 i))],[(0,.row 104 tStep 0 true (l.take i))]⟩) (fun i=>i<=l.length) (fun i=>l.length - i) 0 ?_ (Nat.zero_le _) ?_
 ·refine Wk.mk [] ?_
  try simp (maxSteps:=9^9) only[go_sem]
  try (and_intros<;>first|rfl|omega|exact ⟨_,rfl⟩)
 ·rintro i hi
  try simp (maxSteps:=9^9) only[go_sem]
  refine CondW_dec (fun hA=>?_) (fun hA=>?_)
  ·have hlt:i < l.length:=by omega
   have htl:(l.take i).length=i:=by rw [List.length_take]; omega
   have hst:l.take (i+1)=l.take i++[nth (t:=tStep) l i]:=by rw [List.take_succ_eq_append_getElem hlt,nth_lt hlt]
   have c1:=ownPointS_fn (nth (t:=tStep) l i).2 (hl _ (nth_memT (t:=tStep) hlt))
   try simp (maxSteps:=9^9) only[go_sem]
   repeat refine And.intro (by first|omega|(constructor<;>omega)|kernel_rfl) ?_
   refine CallW.mk (c1) ?_
   try simp (maxSteps:=9^9) only[go_sem]
   try simp (maxSteps:=9^9) only[go_sem,htl]
   repeat refine And.intro (by first|omega|(constructor<;>omega)|kernel_rfl) ?_
   refine LoopK.mk (i+1) ?_ (by omega) (by omega)
   rw [hst]
   refine Wk.mk [] ?_
   try simp (maxSteps:=9^9) only[go_sem]
   try (and_intros<;>first|rfl|omega|exact ⟨_,rfl⟩)
  ·rw [show l.take i=l from List.take_of_length_le (by omega)]
   try simp (maxSteps:=9^9) only[go_sem]
   all_goals repeat refine And.intro (by first|omega|(constructor<;>omega)|kernel_rfl) ?_
   all_goals first|kernel_rfl|omega|rfl
set_option maxRecDepth 100000 in
set_option maxHeartbeats 1000000 in
theorem l24StepsZ_fn (l:List DS) (hl:∀ x ∈ l,szP x.2) (hn:l.length<=1048576):Fn Tryz.prog 110 [⟨.slice tStep,l⟩] true [⟨.slice tStep,l⟩]:=by
 refine fn_enter tabOK mixes Tryz.func110 rfl rfl _ Tryz.ntmps110 _ Tryz.results110 (by simp) fun hwf=>?_
 try simp (maxSteps:=9^9) only[go_sem]
 repeat refine And.intro (by first|omega|(constructor<;>omega)|kernel_rfl) ?_
 refine LoopG.intro _ _ _ (fun i:Nat=>⟨[(3,.row 0 0),(7,.sl tStep l),(8,.sc (.int .i64 l.length)),(9,.sc (.int .i64 i))],[(0,.row 104 tStep 0 true (l.take i))]⟩) (fun i=>i<=l.length) (fun i=>l.length - i) 0 ?_ (Nat.zero_le _) ?_
 ·refine Wk.mk [] ?_
  try simp (maxSteps:=9^9) only[go_sem]
  try (and_intros<;>first|rfl|omega|exact ⟨_,rfl⟩)
 ·rintro i hi
  try simp (maxSteps:=9^9) only[go_sem]
  refine CondW_dec (fun hA=>?_) (fun hA=>?_)
  ·have hlt:i < l.length:=by omega
   have htl:(l.take i).length=i:=by rw [List.length_take]; omega
   have hst:l.take (i+1)=l.take i++[nth (t:=tStep) l i]:=by rw [List.take_succ_eq_append_getElem hlt,nth_lt hlt]
   have c1:=l05CopyS_fn (nth (t:=tStep) l i).2 (hl _ (nth_memT (t:=tStep) hlt))
   try simp (maxSteps:=9^9) only[go_sem]
   repeat refine And.intro (by first|omega|(constructor<;>omega)|kernel_rfl) ?_
   refine CallW.mk (c1) ?_
   try simp (maxSteps:=9^9) only[go_sem]
   try simp (maxSteps:=9^9) only[go_sem,htl]
   repeat refine And.intro (by first|omega|(constructor<;>omega)|kernel_rfl) ?_
   refine LoopK.mk (i+1) ?_ (by omega) (by omega)
   rw [hst]
   refine Wk.mk [] ?_
   try simp (maxSteps:=9^9) only[go_sem]
   try (and_intros<;>first|rfl|omega|exact ⟨_,rfl⟩)
  ·rw [show l.take i=l from List.take_of_length_le (by omega)]
   try simp (maxSteps:=9^9) only[go_sem]
   all_goals repeat refine And.intro (by first|omega|(constructor<;>omega)|kernel_rfl) ?_
   all_goals first|kernel_rfl|omega|rfl
theorem im_sc {s:DSc} {p q:DS} {l:List DS} (h:imB s p l q=true):sceneB s=true:=by
 cases hs:sceneB s
 ·unfold imB at h
  rw [ck_1 hs] at h
  exact absurd h (by decide)
 ·rfl
def nzP (l:List DS) (i n:Nat):Prop:=i+n<=l.length/\∀ j,j < n->(nth (t:=tStep) l (i+j)).1=0
theorem nz_end {l:List DS} {i n:Nat} (h:nzP l i n) (h2:i+n < l.length->(nth (t:=tStep) l (i+n)).1 ≠ 0):n=nz l i:=(nz_eq h.2 h.1 h2).symm
theorem nzP_0 {l:List DS} {i:Nat} (h:i<=l.length):nzP l i 0:=⟨h,fun j h=>absurd h (Nat.not_lt_zero _)⟩
theorem nzP_s {l:List DS} {i n:Nat} (h:nzP l i n) (h1:i+n < l.length) (h2:(nth (t:=tStep) l (i+n)).1=0):nzP l i (n+1):=⟨by omega,fun j hj=>by
 by_cases e:j < n
 ·exact h.2 j e
 ·rw [show j=n by omega]; exact h2⟩
theorem nz_0 {l:List DS} {i:Nat} (h:i<=l.length) (h2:(nth (t:=tStep) l i).1 ≠ 0):nz l i=0:=(nz_end (nzP_0 h) fun _=>h2).symm
theorem bst_s (s:DSc) (p:DS) (l:List DS) (i n:Nat):bst s p l i (n+1)=if freM s p.1 p.2 (nth (t:=tStep) l (i+n)).2 then i+n else bst s p l i n:=(rfl)
theorem bst_t {s:DSc} {p:DS} {l:List DS} {i n:Nat} (h:freM s p.1 p.2 (nth (t:=tStep) l (i+n)).2=true):bst s p l i (n+1)=i+n:=by rw [bst_s,if_pos h]
theorem bst_f {s:DSc} {p:DS} {l:List DS} {i n:Nat} (h:freM s p.1 p.2 (nth (t:=tStep) l (i+n)).2=false):bst s p l i (n+1)=bst s p l i n:=by rw [bst_s,if_neg (by rw [h]; decide)]
set_option maxRecDepth 100000 in
set_option maxHeartbeats 4000000 in
theorem ShortenI_fn (s:DSc) (p:DS) (l:List DS) (hl:∀ x ∈ l,szP x.2) (hn:l.length<=1048576):Fn Tryz.prog 39 [⟨tScene,s⟩,⟨tStep,p⟩,⟨.slice tStep,l⟩] true [⟨.slice tStep,shD s p l⟩]:=by
 have c1:=afterAll_fn p l
 have c2:=IsMotionI_fn s p l (plcF p l)
 cases hm:imB s p l (plcF p l)<;>rw [hm] at c2
 ·have c3:=ownStepsZ_fn l hl hn
  rw [show shD s p l=l from if_neg (by rw [hm]; decide)]
  refine fn_enter tabOK mixes Tryz.func39 rfl rfl _ Tryz.ntmps39 _ Tryz.results39 (by simp) fun hwf=>?_
  try simp (maxSteps:=9^9) only[go_sem]
  repeat refine And.intro (by first|omega|(constructor<;>omega)|kernel_rfl) ?_
  refine CallW.mk (c1) ?_
  try simp (maxSteps:=9^9) only[go_sem]
  repeat refine And.intro (by first|omega|(constructor<;>omega)|kernel_rfl) ?_
  refine CallW.mk (c2) ?_
  try simp (maxSteps:=9^9) only[go_sem]
  repeat refine And.intro (by first|omega|(constructor<;>omega)|kernel_rfl) ?_
  refine CallW.mk (c3) ?_
  try simp (maxSteps:=9^9) only[go_sem]
  all_goals repeat refine And.intro (by first|omega|(constructor<;>omega)|kernel_rfl) ?_
  all_goals first|kernel_rfl|omega|rfl
 ·have hs:=im_sc hm
  have c3:=spacesOf_fn s
  rw [show shD s p l=shG s l p 0 from if_pos hm]
  refine fn_enter tabOK mixes Tryz.func39 rfl rfl _ Tryz.ntmps39 _ Tryz.results39 (by simp) fun hwf=>?_
  try simp (maxSteps:=9^9) only[go_sem]
  repeat refine And.intro (by first|omega|(constructor<;>omega)|kernel_rfl) ?_
  refine CallW.mk (c1) ?_
  try simp (maxSteps:=9^9) only[go_sem]
  repeat refine And.intro (by first|omega|(constructor<;>omega)|kernel_rfl) ?_
  refine CallW.mk (c2) ?_
  try simp (maxSteps:=9^9) only[go_sem]
  repeat refine And.intro (by first|omega|(constructor<;>omega)|kernel_rfl) ?_
  refine CallW.mk (c3) ?_
  try simp (maxSteps:=9^9) only[go_sem]
  repeat refine And.intro (by first|omega|(constructor<;>omega)|kernel_rfl) ?_
  refine LoopG.intro _ _ _ (fun y:Nat × DS × List DS=>⟨[(2,.sl tStep l),(4,.ptr 1 0),(7,.ref tSpaces (spsD s) 0),(8,.row 2 0),(9,.sc (.int .i64 y.1))],[(1,.box (cel tStep y.2.1)),(2,.row 104 tStep 0 false y.2.2)]⟩) (fun y=>y.1<=l.length/\y.2.2.length<=y.1/\y.2.2++shG s l y.2.1 y.1=shG s l p 0) (fun y=>l.length - y.1) (0,p,[]) ?_ ⟨Nat.zero_le _,Nat.le_refl _,rfl⟩ ?_
  ·refine Wk.mk [] ?_
   try simp (maxSteps:=9^9) only[go_sem]
   try (and_intros<;>first|rfl|omega|exact ⟨_,rfl⟩)
  ·rintro ⟨i,q,r⟩ ⟨hi,hr,hgo⟩
   dsimp only at hi hr hgo
   try simp (maxSteps:=9^9) only[go_sem]
   refine CondW_dec (fun hA=>?_) (fun hA=>?_)
   ·have hlt:i < l.length:=by omega
    rw [shG_at hlt] at hgo
    try simp (maxSteps:=9^9) only[go_sem]
    repeat refine And.intro (by first|omega|(constructor<;>omega)|kernel_rfl) ?_
    refine LoopG.intro _ _ _ (fun k:Nat=>⟨[(2,.sl tStep l),(4,.ptr 1 0),(7,.ref tSpaces (spsD s) 0),(8,.row 2 0),(9,.sc (.int .i64 i)),(10,.sc (.int .i64 (bst s q l i (k - i)))),(11,.sc (.int .i64 k))],[(1,.box (cel tStep q)),(2,.row 104 tStep 0 false r)]⟩) (fun k=>i<=k/\nzP l i (k - i)) (fun k=>l.length - k) i ?_ ⟨Nat.le_refl _,by rw [Nat.sub_self]; exact nzP_0 hi⟩ ?_
    ·rw [Nat.sub_self,show bst s q l i 0=i from rfl]
     refine Wk.mk [] ?_
     try simp (maxSteps:=9^9) only[go_sem]
     try (and_intros<;>first|rfl|omega|exact ⟨_,rfl⟩)
    ·rintro k ⟨hik,hnz⟩
     have hb1:=bst_lo s q l i (k - i)
     have hb2:=bst_hi s q l i (k - i)
     have hnl:=hnz.1
     have hke:i+(k - i)=k:=by omega
     by_cases ht0:(nth (t:=tStep) l i).1=0
     rotate_left
     ·have d0:=decide_eq_false ht0
      have e:k - i=nz l i:=by
       rw [nz_0 hi ht0]
       rcases Nat.eq_zero_or_pos (k - i) with h|h
       ·exact h
       ·exact absurd (hnz.2 0 h) ht0
      have hbl:=bst_lt (s:=s) (p:=q) hlt
      rw [<-e] at hbl hgo
      have c5:=stepped_fn q (nth (t:=tStep) l (bst s q l i (k - i)))
      try simp (maxSteps:=9^9) only[go_sem]
      repeat refine And.intro (by first|omega|(constructor<;>omega)|kernel_rfl) ?_
      try simp (maxSteps:=9^9) only[go_sem,d0]
      repeat refine And.intro (by first|omega|(constructor<;>omega)|kernel_rfl) ?_
      refine CallW.mk (c5) ?_
      try simp (maxSteps:=9^9) only[go_sem]
      repeat refine And.intro (by first|omega|(constructor<;>omega)|kernel_rfl) ?_
      refine LoopK.mk ((bst s q l i (k - i))+1,stp q (nth (t:=tStep) l (bst s q l i (k - i))),r++[(nth (t:=tStep) l (bst s q l i (k - i)))]) ?_ (by exact ⟨by simp only; omega,by simp only [List.length_append,List.length_singleton]; omega,by simp only [List.append_assoc,List.singleton_append]; exact hgo⟩) (by simp only; omega)
      refine Wk.mk [] ?_
      try simp (maxSteps:=9^9) only[go_sem]
      try (and_intros<;>first|rfl|omega|exact ⟨_,rfl⟩)
     have d0:=decide_eq_true ht0
     by_cases hk:k < l.length
     rotate_left
     ·have dk:=decide_eq_false (p:=(k:Int) < l.length) (by omega)
      have e:k - i=nz l i:=nz_end hnz (by omega)
      have hbl:=bst_lt (s:=s) (p:=q) hlt
      rw [<-e] at hbl hgo
      have c5:=stepped_fn q (nth (t:=tStep) l (bst s q l i (k - i)))
      try simp (maxSteps:=9^9) only[go_sem]
      repeat refine And.intro (by first|omega|(constructor<;>omega)|kernel_rfl) ?_
      try simp (maxSteps:=9^9) only[go_sem,d0]
      repeat refine And.intro (by first|omega|(constructor<;>omega)|kernel_rfl) ?_
      try simp (maxSteps:=9^9) only[go_sem,d0,dk]
      repeat refine And.intro (by first|omega|(constructor<;>omega)|kernel_rfl) ?_
      refine CallW.mk (c5) ?_
      try simp (maxSteps:=9^9) only[go_sem]
      repeat refine And.intro (by first|omega|(constructor<;>omega)|kernel_rfl) ?_
      refine LoopK.mk ((bst s q l i (k - i))+1,stp q (nth (t:=tStep) l (bst s q l i (k - i))),r++[(nth (t:=tStep) l (bst s q l i (k - i)))]) ?_ (by exact ⟨by simp only; omega,by simp only [List.length_append,List.length_singleton]; omega,by simp only [List.append_assoc,List.singleton_append]; exact hgo⟩) (by simp only; omega)
      refine Wk.mk [] ?_
      try simp (maxSteps:=9^9) only[go_sem]
      try (and_intros<;>first|rfl|omega|exact ⟨_,rfl⟩)
     have dk:=decide_eq_true (p:=(k:Int) < l.length) (by omega)
     by_cases htk:(nth (t:=tStep) l k).1=0
     rotate_left
     ·have d1:=decide_eq_false htk
      have e:k - i=nz l i:=nz_end hnz (fun _=>by rw [hke]; exact htk)
      have hbl:=bst_lt (s:=s) (p:=q) hlt
      rw [<-e] at hbl hgo
      have c5:=stepped_fn q (nth (t:=tStep) l (bst s q l i (k - i)))
      try simp (maxSteps:=9^9) only[go_sem]
      repeat refine And.intro (by first|omega|(constructor<;>omega)|kernel_rfl) ?_
      try simp (maxSteps:=9^9) only[go_sem,d0]
      repeat refine And.intro (by first|omega|(constructor<;>omega)|kernel_rfl) ?_
      try simp (maxSteps:=9^9) only[go_sem,d0,dk]
      repeat refine And.intro (by first|omega|(constructor<;>omega)|kernel_rfl) ?_
      try simp (maxSteps:=9^9) only[go_sem,d0,dk,d1]
      repeat refine And.intro (by first|omega|(constructor<;>omega)|kernel_rfl) ?_
      refine CallW.mk (c5) ?_
      try simp (maxSteps:=9^9) only[go_sem]
      repeat refine And.intro (by first|omega|(constructor<;>omega)|kernel_rfl) ?_
      refine LoopK.mk ((bst s q l i (k - i))+1,stp q (nth (t:=tStep) l (bst s q l i (k - i))),r++[(nth (t:=tStep) l (bst s q l i (k - i)))]) ?_ (by exact ⟨by simp only; omega,by simp only [List.length_append,List.length_singleton]; omega,by simp only [List.append_assoc,List.singleton_append]; exact hgo⟩) (by simp only; omega)
      refine Wk.mk [] ?_
      try simp (maxSteps:=9^9) only[go_sem]
      try (and_intros<;>first|rfl|omega|exact ⟨_,rfl⟩)
     have d1:=decide_eq_true htk
     have hns:=nzP_s hnz (by omega) (by rw [hke]; exact htk)
     rw [show k - i+1=k+1 - i by omega] at hns
     have c4:=spsFreeMove_fn s q.1 q.2 (nth (t:=tStep) l k).2
     cases hf:freM s q.1 q.2 (nth (t:=tStep) l k).2<;>rw [hf] at c4
     ·have hbs:bst s q l i (k+1 - i)=(bst s q l i (k - i)):=by
       have h:=bst_f (s:=s) (p:=q) (l:=l) (i:=i) (n:=k - i) (by rw [hke]; exact hf)
       rwa [show k - i+1=k+1 - i by omega] at h
      try simp (maxSteps:=9^9) only[go_sem]
      repeat refine And.intro (by first|omega|(constructor<;>omega)|kernel_rfl) ?_
      try simp (maxSteps:=9^9) only[go_sem,d0]
      repeat refine And.intro (by first|omega|(constructor<;>omega)|kernel_rfl) ?_
      try simp (maxSteps:=9^9) only[go_sem,d0,dk]
      repeat refine And.intro (by first|omega|(constructor<;>omega)|kernel_rfl) ?_
      try simp (maxSteps:=9^9) only[go_sem,d0,dk,d1]
      repeat refine And.intro (by first|omega|(constructor<;>omega)|kernel_rfl) ?_
      refine CallW.mk (c4) ?_
      try simp (maxSteps:=9^9) only[go_sem]
      repeat refine And.intro (by first|omega|(constructor<;>omega)|kernel_rfl) ?_
      refine LoopK.mk (k+1) ?_ ⟨by omega,hns⟩ (by omega)
      rw [hbs]
      refine Wk.mk [] ?_
      try simp (maxSteps:=9^9) only[go_sem]
      try (and_intros<;>first|rfl|omega|exact ⟨_,rfl⟩)
     ·have hbs:bst s q l i (k+1 - i)=k:=by
       have h:=bst_t (s:=s) (p:=q) (l:=l) (i:=i) (n:=k - i) (by rw [hke]; exact hf)
       rwa [show k - i+1=k+1 - i by omega,hke] at h
      try simp (maxSteps:=9^9) only[go_sem]
      repeat refine And.intro (by first|omega|(constructor<;>omega)|kernel_rfl) ?_
      try simp (maxSteps:=9^9) only[go_sem,d0]
      repeat refine And.intro (by first|omega|(constructor<;>omega)|kernel_rfl) ?_
      try simp (maxSteps:=9^9) only[go_sem,d0,dk]
      repeat refine And.intro (by first|omega|(constructor<;>omega)|kernel_rfl) ?_
      try simp (maxSteps:=9^9) only[go_sem,d0,dk,d1]
      repeat refine And.intro (by first|omega|(constructor<;>omega)|kernel_rfl) ?_
      refine CallW.mk (c4) ?_
      try simp (maxSteps:=9^9) only[go_sem]
      repeat refine And.intro (by first|omega|(constructor<;>omega)|kernel_rfl) ?_
      refine LoopK.mk (k+1) ?_ ⟨by omega,hns⟩ (by omega)
      rw [hbs]
      refine Wk.mk [] ?_
      try simp (maxSteps:=9^9) only[go_sem]
      try (and_intros<;>first|rfl|omega|exact ⟨_,rfl⟩)
   ·rw [shG_end (by omega),List.append_nil] at hgo
    rw [<-hgo]
    have c9:=ownStepsZ_fn r (fun x hx=>hl x (shG_mem l.length (p:=p) (i:=0) (by omega) x (by rw [<-hgo]; exact hx))) (by omega)
    try simp (maxSteps:=9^9) only[go_sem]
    repeat refine And.intro (by first|omega|(constructor<;>omega)|kernel_rfl) ?_
    refine CallW.mk (c9) ?_
    try simp (maxSteps:=9^9) only[go_sem]
    all_goals repeat refine And.intro (by first|omega|(constructor<;>omega)|kernel_rfl) ?_
    all_goals first|kernel_rfl|omega|rfl
set_option maxRecDepth 100000 in
set_option maxHeartbeats 4000000 in
theorem ShortenS_fn (s:DSc) (p:DS) (l:List DS) (hz:szP (plcF p l).2) (hl:∀ x ∈ l,szP x.2) (hn:l.length<=1048576):Fn Tryz.prog 38 [⟨tScene,s⟩,⟨tStep,p⟩,⟨.slice tStep,l⟩] true [⟨.slice tStep,shD s p l⟩]:=by
 have c1:=(PlacementAfterZ_fn p l hz).sh
 have c2:=IsMotionS_fn s p l (plcF p l)
 cases hm:imB s p l (plcF p l)<;>rw [hm] at c2
 ·have c3:=l24StepsZ_fn l hl hn
  rw [show shD s p l=l from if_neg (by rw [hm]; decide)]
  refine fn_enter tabOK mixes Tryz.func38 rfl rfl _ Tryz.ntmps38 _ Tryz.results38 (by simp) fun hwf=>?_
  try simp (maxSteps:=9^9) only[go_sem]
  repeat refine And.intro (by first|omega|(constructor<;>omega)|kernel_rfl) ?_
  refine CallW.mk (c1) ?_
  try simp (maxSteps:=9^9) only[go_sem]
  repeat refine And.intro (by first|omega|(constructor<;>omega)|kernel_rfl) ?_
  refine CallW.mk (c2) ?_
  try simp (maxSteps:=9^9) only[go_sem]
  repeat refine And.intro (by first|omega|(constructor<;>omega)|kernel_rfl) ?_
  refine CallW.mk (c3) ?_
  try simp (maxSteps:=9^9) only[go_sem]
  all_goals repeat refine And.intro (by first|omega|(constructor<;>omega)|kernel_rfl) ?_
  all_goals first|kernel_rfl|omega|rfl
 ·have hs:=im_sc hm
  rw [show shD s p l=shG s l p 0 from if_pos hm]
  refine fn_enter tabOK mixes Tryz.func38 rfl rfl _ Tryz.ntmps38 _ Tryz.results38 (by simp) fun hwf=>?_
  try simp (maxSteps:=9^9) only[go_sem]
  repeat refine And.intro (by first|omega|(constructor<;>omega)|kernel_rfl) ?_
  refine CallW.mk (c1) ?_
  try simp (maxSteps:=9^9) only[go_sem]
  repeat refine And.intro (by first|omega|(constructor<;>omega)|kernel_rfl) ?_
  refine CallW.mk (c2) ?_
  try simp (maxSteps:=9^9) only[go_sem]
  repeat refine And.intro (by first|omega|(constructor<;>omega)|kernel_rfl) ?_
  refine LoopG.intro _ _ _ (fun y:Nat × DS × List DS=>⟨[(2,.sl tStep l),(3,.ptr 0 0),(4,.ptr 1 0),(7,.row 2 0),(8,.sc (.int .i64 y.1))],[(0,.box (cel tScene s)),(1,.box (cel tStep y.2.1)),(2,.row 104 tStep 0 true y.2.2)]⟩) (fun y=>y.1<=l.length/\y.2.2.length<=y.1/\y.2.2++shG s l y.2.1 y.1=shG s l p 0) (fun y=>l.length - y.1) (0,p,[]) ?_ ⟨Nat.zero_le _,Nat.le_refl _,rfl⟩ ?_
  ·refine Wk.mk [] ?_
   try simp (maxSteps:=9^9) only[go_sem]
   try (and_intros<;>first|rfl|omega|exact ⟨_,rfl⟩)
  ·rintro ⟨i,q,r⟩ ⟨hi,hr,hgo⟩
   dsimp only at hi hr hgo
   try simp (maxSteps:=9^9) only[go_sem]
   refine CondW_dec (fun hA=>?_) (fun hA=>?_)
   ·have hlt:i < l.length:=by omega
    rw [shG_at hlt] at hgo
    by_cases ht0:(nth (t:=tStep) l i).1=0
    rotate_left
    ·have d0:=decide_eq_false ht0
     rw [nz_0 hi ht0,show bst s q l i 0=i from rfl] at hgo
     have c5:=l22After_fn q (nth (t:=tStep) l i)
     have c6:=l05CopyS_fn (nth (t:=tStep) l i).2 (hl _ (nth_memT (t:=tStep) hlt))
     try simp (maxSteps:=9^9) only[go_sem]
     repeat refine And.intro (by first|omega|(constructor<;>omega)|kernel_rfl) ?_
     try simp (maxSteps:=9^9) only[go_sem,d0]
     repeat refine And.intro (by first|omega|(constructor<;>omega)|kernel_rfl) ?_
     refine CallW.mk (c6) ?_
     try simp (maxSteps:=9^9) only[go_sem]
     repeat refine And.intro (by first|omega|(constructor<;>omega)|kernel_rfl) ?_
     refine CallW.mk (c5) ?_
     try simp (maxSteps:=9^9) only[go_sem]
     repeat refine And.intro (by first|omega|(constructor<;>omega)|kernel_rfl) ?_
     refine LoopK.mk (i+1,stp q (nth (t:=tStep) l i),r++[nth (t:=tStep) l i]) ?_ (by exact ⟨by simp only; omega,by simp only [List.length_append,List.length_singleton]; omega,by simp only [List.append_assoc,List.singleton_append]; exact hgo⟩) (by simp only; omega)
     refine Wk.mk [] ?_
     try simp (maxSteps:=9^9) only[go_sem]
     try (and_intros<;>first|rfl|omega|exact ⟨_,rfl⟩)
    have d0:=decide_eq_true ht0
    try simp (maxSteps:=9^9) only[go_sem]
    repeat refine And.intro (by first|omega|(constructor<;>omega)|kernel_rfl) ?_
    try simp (maxSteps:=9^9) only[go_sem,d0]
    repeat refine And.intro (by first|omega|(constructor<;>omega)|kernel_rfl) ?_
    refine LoopG.intro _ _ _ (fun k:Nat=>⟨[(2,.sl tStep l),(3,.ptr 0 0),(4,.ptr 1 0),(7,.row 2 0),(8,.sc (.int .i64 i)),(9,.sc (.int .i64 (bst s q l i (k - i)))),(10,.sc (.int .i64 k))],[(0,.box (cel tScene s)),(1,.box (cel tStep q)),(2,.row 104 tStep 0 true r)]⟩) (fun k=>i<=k/\nzP l i (k - i)) (fun k=>l.length - k) i ?_ ⟨Nat.le_refl _,by rw [Nat.sub_self]; exact nzP_0 hi⟩ ?_
    ·rw [Nat.sub_self,show bst s q l i 0=i from rfl]
     refine Wk.mk [] ?_
     try simp (maxSteps:=9^9) only[go_sem]
     try (and_intros<;>first|rfl|omega|exact ⟨_,rfl⟩)
    ·rintro k ⟨hik,hnz⟩
     have hb1:=bst_lo s q l i (k - i)
     have hb2:=bst_hi s q l i (k - i)
     have hnl:=hnz.1
     have hke:i+(k - i)=k:=by omega
     by_cases hk:k < l.length
     rotate_left
     ·have dk:=decide_eq_false (p:=(k:Int) < l.length) (by omega)
      have e:k - i=nz l i:=nz_end hnz (by omega)
      have hbl:=bst_lt (s:=s) (p:=q) hlt
      rw [<-e] at hbl hgo
      have c5:=l22After_fn q (nth (t:=tStep) l (bst s q l i (k - i)))
      have c6:=l05CopyS_fn (nth (t:=tStep) l (bst s q l i (k - i))).2 (hl _ (nth_memT (t:=tStep) hbl))
      try simp (maxSteps:=9^9) only[go_sem]
      repeat refine And.intro (by first|omega|(constructor<;>omega)|kernel_rfl) ?_
      try simp (maxSteps:=9^9) only[go_sem,dk]
      repeat refine And.intro (by first|omega|(constructor<;>omega)|kernel_rfl) ?_
      refine CallW.mk (c6) ?_
      try simp (maxSteps:=9^9) only[go_sem]
      repeat refine And.intro (by first|omega|(constructor<;>omega)|kernel_rfl) ?_
      refine CallW.mk (c5) ?_
      try simp (maxSteps:=9^9) only[go_sem]
      repeat refine And.intro (by first|omega|(constructor<;>omega)|kernel_rfl) ?_
      refine LoopK.mk ((bst s q l i (k - i))+1,stp q (nth (t:=tStep) l (bst s q l i (k - i))),r++[(nth (t:=tStep) l (bst s q l i (k - i)))]) ?_ (by exact ⟨by simp only; omega,by simp only [List.length_append,List.length_singleton]; omega,by simp only [List.append_assoc,List.singleton_append]; exact hgo⟩) (by simp only; omega)
      refine Wk.mk [] ?_
      try simp (maxSteps:=9^9) only[go_sem]
      try (and_intros<;>first|rfl|omega|exact ⟨_,rfl⟩)
     have dk:=decide_eq_true (p:=(k:Int) < l.length) (by omega)
     by_cases htk:(nth (t:=tStep) l k).1=0
     rotate_left
     ·have d1:=decide_eq_false htk
      have e:k - i=nz l i:=nz_end hnz (fun _=>by rw [hke]; exact htk)
      have hbl:=bst_lt (s:=s) (p:=q) hlt
      rw [<-e] at hbl hgo
      have c5:=l22After_fn q (nth (t:=tStep) l (bst s q l i (k - i)))
      have c6:=l05CopyS_fn (nth (t:=tStep) l (bst s q l i (k - i))).2 (hl _ (nth_memT (t:=tStep) hbl))
      try simp (maxSteps:=9^9) only[go_sem]
      repeat refine And.intro (by first|omega|(constructor<;>omega)|kernel_rfl) ?_
      try simp (maxSteps:=9^9) only[go_sem,dk]
      repeat refine And.intro (by first|omega|(constructor<;>omega)|kernel_rfl) ?_
      try simp (maxSteps:=9^9) only[go_sem,dk,d1]
      repeat refine And.intro (by first|omega|(constructor<;>omega)|kernel_rfl) ?_
      refine CallW.mk (c6) ?_
      try simp (maxSteps:=9^9) only[go_sem]
      repeat refine And.intro (by first|omega|(constructor<;>omega)|kernel_rfl) ?_
      refine CallW.mk (c5) ?_
      try simp (maxSteps:=9^9) only[go_sem]
      repeat refine And.intro (by first|omega|(constructor<;>omega)|kernel_rfl) ?_
      refine LoopK.mk ((bst s q l i (k - i))+1,stp q (nth (t:=tStep) l (bst s q l i (k - i))),r++[(nth (t:=tStep) l (bst s q l i (k - i)))]) ?_ (by exact ⟨by simp only; omega,by simp only [List.length_append,List.length_singleton]; omega,by simp only [List.append_assoc,List.singleton_append]; exact hgo⟩) (by simp only; omega)
      refine Wk.mk [] ?_
      try simp (maxSteps:=9^9) only[go_sem]
      try (and_intros<;>first|rfl|omega|exact ⟨_,rfl⟩)
     have d1:=decide_eq_true htk
     have hns:=nzP_s hnz (by omega) (by rw [hke]; exact htk)
     rw [show k - i+1=k+1 - i by omega] at hns
     have c4:=IsFreeMoveS_fn s q.1 q.2 (nth (t:=tStep) l k).2
     cases hf:freM s q.1 q.2 (nth (t:=tStep) l k).2<;>rw [hf] at c4
     ·have hbs:bst s q l i (k+1 - i)=(bst s q l i (k - i)):=by
       have h:=bst_f (s:=s) (p:=q) (l:=l) (i:=i) (n:=k - i) (by rw [hke]; exact hf)
       rwa [show k - i+1=k+1 - i by omega] at h
      try simp (maxSteps:=9^9) only[go_sem]
      repeat refine And.intro (by first|omega|(constructor<;>omega)|kernel_rfl) ?_
      try simp (maxSteps:=9^9) only[go_sem,dk]
      repeat refine And.intro (by first|omega|(constructor<;>omega)|kernel_rfl) ?_
      try simp (maxSteps:=9^9) only[go_sem,dk,d1]
      repeat refine And.intro (by first|omega|(constructor<;>omega)|kernel_rfl) ?_
      refine CallW.mk (c4) ?_
      try simp (maxSteps:=9^9) only[go_sem]
      repeat refine And.intro (by first|omega|(constructor<;>omega)|kernel_rfl) ?_
      refine LoopK.mk (k+1) ?_ ⟨by omega,hns⟩ (by omega)
      rw [hbs]
      refine Wk.mk [] ?_
      try simp (maxSteps:=9^9) only[go_sem]
      try (and_intros<;>first|rfl|omega|exact ⟨_,rfl⟩)
     ·have hbs:bst s q l i (k+1 - i)=k:=by
       have h:=bst_t (s:=s) (p:=q) (l:=l) (i:=i) (n:=k - i) (by rw [hke]; exact hf)
       rwa [show k - i+1=k+1 - i by omega,hke] at h
      try simp (maxSteps:=9^9) only[go_sem]
      repeat refine And.intro (by first|omega|(constructor<;>omega)|kernel_rfl) ?_
      try simp (maxSteps:=9^9) only[go_sem,dk]
      repeat refine And.intro (by first|omega|(constructor<;>omega)|kernel_rfl) ?_
      try simp (maxSteps:=9^9) only[go_sem,dk,d1]
      repeat refine And.intro (by first|omega|(constructor<;>omega)|kernel_rfl) ?_
      refine CallW.mk (c4) ?_
      try simp (maxSteps:=9^9) only[go_sem]
      repeat refine And.intro (by first|omega|(constructor<;>omega)|kernel_rfl) ?_
      refine LoopK.mk (k+1) ?_ ⟨by omega,hns⟩ (by omega)
      rw [hbs]
      refine Wk.mk [] ?_
      try simp (maxSteps:=9^9) only[go_sem]
      try (and_intros<;>first|rfl|omega|exact ⟨_,rfl⟩)
   ·rw [shG_end (by omega),List.append_nil] at hgo
    rw [<-hgo]
    try simp (maxSteps:=9^9) only[go_sem]
    all_goals repeat refine And.intro (by first|omega|(constructor<;>omega)|kernel_rfl) ?_
    all_goals first|kernel_rfl|omega|rfl
end Go.Proofs.YtffdhjnbppagjaaGreat.DW

namespace Go.Proofs.YtffdhjnbppagjaaGreat.DW
open Go.RowKit
theorem eqb_step (x y:DS):eqb x y=(decide (x.1=y.1) && eqb x.2 y.2):=by
 by_cases h1:x.1=y.1
 ·by_cases h2:x.2=y.2
  ·rw [eqb_true (Prod.ext h1 h2),decide_eq_true h1,eqb_true h2]; rfl
  ·rw [eqb_false (fun h=>h2 (by rw [h])),decide_eq_true h1,eqb_false h2]; rfl
 ·rw [eqb_false (fun h=>h1 (by rw [h])),decide_eq_false h1]; rfl
set_option maxRecDepth 100000 in
set_option maxHeartbeats 1000000 in
theorem sameStepsC_fn (x y:DS):Fn Tryz.prog 191 [⟨tStep,x⟩,⟨tStep,y⟩] false [⟨.bool,eqb x y⟩]:=by
 have c1:=implSame_fn x.2 y.2
 rw [eqb_step]
 by_cases h:x.1=y.1
 ·have d:=decide_eq_true h
  rw [d]
  refine fn_enter tabOK mixes Tryz.func191 rfl rfl _ Tryz.ntmps191 _ Tryz.results191 (by simp) fun hwf=>?_
  try simp (maxSteps:=9^9) only[go_sem]
  repeat refine And.intro (by first|omega|(constructor<;>omega)|kernel_rfl) ?_
  try simp (maxSteps:=9^9) only[go_sem,d]
  repeat refine And.intro (by first|omega|(constructor<;>omega)|kernel_rfl) ?_
  refine CallW.mk (c1) ?_
  try simp (maxSteps:=9^9) only[go_sem]
  all_goals repeat refine And.intro (by first|omega|(constructor<;>omega)|kernel_rfl) ?_
  all_goals first|kernel_rfl|omega|rfl
 ·have d:=decide_eq_false h
  rw [d]
  refine fn_enter tabOK mixes Tryz.func191 rfl rfl _ Tryz.ntmps191 _ Tryz.results191 (by simp) fun hwf=>?_
  try simp (maxSteps:=9^9) only[go_sem]
  repeat refine And.intro (by first|omega|(constructor<;>omega)|kernel_rfl) ?_
  try simp (maxSteps:=9^9) only[go_sem,d]
  all_goals repeat refine And.intro (by first|omega|(constructor<;>omega)|kernel_rfl) ?_
  all_goals first|kernel_rfl|omega|rfl
set_option maxRecDepth 100000 in
set_option maxHeartbeats 1000000 in
theorem eqFunc_step_fn (F:FuncId) (hF:∀ x y:DS,Fn Tryz.prog F [⟨tStep,x⟩,⟨tStep,y⟩] false [⟨.bool,eqb x y⟩]) (a b:List DS):Fn Tryz.prog 190 [⟨.slice tStep,a⟩,⟨.slice tStep,b⟩,⟨.cst (.fn F),()⟩] false [⟨.bool,eqb a b⟩]:=by
 by_cases h0:(a.length:Int)=b.length
 ·have d0:=decide_eq_true h0
  refine fn_enter tabOK mixes Tryz.func190 rfl rfl _ Tryz.ntmps190 _ Tryz.results190 (by simp) fun hwf=>?_
  have hl:a.length<=9223372036854775807:=(hwf ⟨.slice tStep,a⟩ (by simp)).1
  try simp (maxSteps:=9^9) only[go_sem,d0]
  refine LoopG.intro _ _ _ (fun i:Nat=>⟨[(1,.sl tStep b),(2,.sc (.func (.func F) #[] #[])),(15,.sl tStep a),(16,.sc (.int .i64 a.length)),(17,.sc (.int .i64 i))],[]⟩) (fun i=>∀ j,j < i->j < a.length->nth (t:=tStep) a j=nth (t:=tStep) b j) (fun i=>a.length - i) 0 ?_ (fun j h=>absurd h (Nat.not_lt_zero _)) ?_
  ·refine Wk.mk [] ?_
   try simp (maxSteps:=9^9) only[go_sem]
   try (and_intros<;>first|rfl|omega|exact ⟨_,rfl⟩)
  ·rintro i hi
   try simp (maxSteps:=9^9) only[go_sem]
   refine CondW_dec (fun hA=>?_) (fun hA=>?_)
   ·have c1:=hF (nth (t:=tStep) a i) (nth (t:=tStep) b i)
    by_cases e:nth (t:=tStep) a i=nth (t:=tStep) b i
    ·rw [eqb_true e] at c1
     try simp (maxSteps:=9^9) only[go_sem]
     repeat refine And.intro (by first|omega|(constructor<;>omega)|kernel_rfl) ?_
     refine CallW.mk (c1) ?_
     try simp (maxSteps:=9^9) only[go_sem]
     repeat refine And.intro (by first|omega|(constructor<;>omega)|kernel_rfl) ?_
     refine LoopK.mk (i+1) ?_ (fun j h1 h2=>?_) (by omega)
     ·refine Wk.mk [] ?_
      try simp (maxSteps:=9^9) only[go_sem]
      try (and_intros<;>first|rfl|omega|exact ⟨_,rfl⟩)
     ·by_cases h3:j < i
      ·exact hi j h3 h2
      ·rw [show j=i by omega]; exact e
    ·rw [eqb_false e] at c1
     rw [eqb_false (fun h=>e (by rw [h]))]
     try simp (maxSteps:=9^9) only[go_sem]
     repeat refine And.intro (by first|omega|(constructor<;>omega)|kernel_rfl) ?_
     refine CallW.mk (c1) ?_
     try simp (maxSteps:=9^9) only[go_sem]
     all_goals repeat refine And.intro (by first|omega|(constructor<;>omega)|kernel_rfl) ?_
     all_goals first|kernel_rfl|omega|rfl
   ·have:a=b:=by
     refine List.ext_getElem (by omega) fun j h1 h2=>?_
     have:=hi j (by omega) h1
     rwa [nth_lt h1,nth_lt h2] at this
    rw [eqb_true this]
    try simp (maxSteps:=9^9) only[go_sem]
    all_goals repeat refine And.intro (by first|omega|(constructor<;>omega)|kernel_rfl) ?_
    all_goals first|kernel_rfl|omega|rfl
 ·have d0:=decide_eq_false h0
  rw [eqb_false (fun h=>h0 (by rw [h]))]
  refine fn_enter tabOK mixes Tryz.func190 rfl rfl _ Tryz.ntmps190 _ Tryz.results190 (by simp) fun hwf=>?_
  try simp (maxSteps:=9^9) only[go_sem,d0]
  all_goals repeat refine And.intro (by first|omega|(constructor<;>omega)|kernel_rfl) ?_
  all_goals first|kernel_rfl|omega|rfl
set_option maxRecDepth 100000 in
set_option maxHeartbeats 1000000 in
theorem SameStepsI_fn (a b:List DS):Fn Tryz.prog 109 [⟨.slice tStep,a⟩,⟨.slice tStep,b⟩] false [⟨.bool,eqb a b⟩]:=by
 have c1:=eqFunc_step_fn 191 sameStepsC_fn a b
 refine fn_enter tabOK mixes Tryz.func109 rfl rfl _ Tryz.ntmps109 _ Tryz.results109 (by simp) fun hwf=>?_
 try simp (maxSteps:=9^9) only[go_sem]
 repeat refine And.intro (by first|omega|(constructor<;>omega)|kernel_rfl) ?_
 refine CallW.mk (c1) ?_
 try simp (maxSteps:=9^9) only[go_sem]
 all_goals repeat refine And.intro (by first|omega|(constructor<;>omega)|kernel_rfl) ?_
 all_goals first|kernel_rfl|omega|rfl
set_option maxRecDepth 100000 in
set_option maxHeartbeats 1000000 in
theorem l24Same_fn (a b:List DS):Fn Tryz.prog 108 [⟨.slice tStep,a⟩,⟨.slice tStep,b⟩] false [⟨.bool,eqb a b⟩]:=by
 by_cases h0:(a.length:Int)=b.length
 ·have d0:=decide_eq_true h0
  refine fn_enter tabOK mixes Tryz.func108 rfl rfl _ Tryz.ntmps108 _ Tryz.results108 (by simp) fun hwf=>?_
  have hl:a.length<=9223372036854775807:=(hwf ⟨.slice tStep,a⟩ (by simp)).1
  try simp (maxSteps:=9^9) only[go_sem,d0]
  refine LoopG.intro _ _ _ (fun i:Nat=>⟨[(1,.sl tStep b),(12,.sl tStep a),(13,.sc (.int .i64 a.length)),(14,.sc (.int .i64 i))],[]⟩) (fun i=>∀ j,j < i->j < a.length->nth (t:=tStep) a j=nth (t:=tStep) b j) (fun i=>a.length - i) 0 ?_ (fun j h=>absurd h (Nat.not_lt_zero _)) ?_
  ·refine Wk.mk [] ?_
   try simp (maxSteps:=9^9) only[go_sem]
   try (and_intros<;>first|rfl|omega|exact ⟨_,rfl⟩)
  ·rintro i hi
   try simp (maxSteps:=9^9) only[go_sem]
   refine CondW_dec (fun hA=>?_) (fun hA=>?_)
   ·have c1:=specSame_fn (nth (t:=tStep) a i).2 (nth (t:=tStep) b i).2
    by_cases e1:(nth (t:=tStep) a i).1=(nth (t:=tStep) b i).1
    ·have d1:=decide_eq_true e1
     by_cases e2:(nth (t:=tStep) a i).2=(nth (t:=tStep) b i).2
     ·rw [eqb_true e2] at c1
      try simp (maxSteps:=9^9) only[go_sem]
      repeat refine And.intro (by first|omega|(constructor<;>omega)|kernel_rfl) ?_
      try simp (maxSteps:=9^9) only[go_sem,d1]
      repeat refine And.intro (by first|omega|(constructor<;>omega)|kernel_rfl) ?_
      refine CallW.mk (c1) ?_
      try simp (maxSteps:=9^9) only[go_sem]
      repeat refine And.intro (by first|omega|(constructor<;>omega)|kernel_rfl) ?_
      refine LoopK.mk (i+1) ?_ (fun j h1 h2=>?_) (by omega)
      ·refine Wk.mk [] ?_
       try simp (maxSteps:=9^9) only[go_sem]
       try (and_intros<;>first|rfl|omega|exact ⟨_,rfl⟩)
      ·by_cases h3:j < i
       ·exact hi j h3 h2
       ·rw [show j=i by omega]; exact Prod.ext e1 e2
     ·rw [eqb_false e2] at c1
      rw [eqb_false (fun h=>e2 (by rw [h]))]
      try simp (maxSteps:=9^9) only[go_sem]
      repeat refine And.intro (by first|omega|(constructor<;>omega)|kernel_rfl) ?_
      try simp (maxSteps:=9^9) only[go_sem,d1]
      repeat refine And.intro (by first|omega|(constructor<;>omega)|kernel_rfl) ?_
      refine CallW.mk (c1) ?_
      try simp (maxSteps:=9^9) only[go_sem]
      all_goals repeat refine And.intro (by first|omega|(constructor<;>omega)|kernel_rfl) ?_
      all_goals first|kernel_rfl|omega|rfl
    ·have d1:=decide_eq_false e1
     rw [eqb_false (fun h=>e1 (by rw [h]))]
     try simp (maxSteps:=9^9) only[go_sem]
     repeat refine And.intro (by first|omega|(constructor<;>omega)|kernel_rfl) ?_
     try simp (maxSteps:=9^9) only[go_sem,d1]
     all_goals repeat refine And.intro (by first|omega|(constructor<;>omega)|kernel_rfl) ?_
     all_goals first|kernel_rfl|omega|rfl
   ·have:a=b:=by
     refine List.ext_getElem (by omega) fun j h1 h2=>?_
     have:=hi j (by omega) h1
     rwa [nth_lt h1,nth_lt h2] at this
    rw [eqb_true this]
    try simp (maxSteps:=9^9) only[go_sem]
    all_goals repeat refine And.intro (by first|omega|(constructor<;>omega)|kernel_rfl) ?_
    all_goals first|kernel_rfl|omega|rfl
 ·have d0:=decide_eq_false h0
  rw [eqb_false (fun h=>h0 (by rw [h]))]
  refine fn_enter tabOK mixes Tryz.func108 rfl rfl _ Tryz.ntmps108 _ Tryz.results108 (by simp) fun hwf=>?_
  try simp (maxSteps:=9^9) only[go_sem,d0]
  all_goals repeat refine And.intro (by first|omega|(constructor<;>omega)|kernel_rfl) ?_
  all_goals first|kernel_rfl|omega|rfl
set_option maxRecDepth 100000 in
set_option maxHeartbeats 1000000 in
theorem IsShortestI_fn (s:DSc) (p:DS) (l:List DS) (hl:∀ x ∈ l,szP x.2) (hn:l.length<=1048576):Fn Tryz.prog 37 [⟨tScene,s⟩,⟨tStep,p⟩,⟨.slice tStep,l⟩] false [⟨.bool,eqb (shD s p l) l⟩]:=by
 have c1:=(ShortenI_fn s p l hl hn).sh
 have c2:=SameStepsI_fn (shD s p l) l
 refine fn_enter tabOK mixes Tryz.func37 rfl rfl _ Tryz.ntmps37 _ Tryz.results37 (by simp) fun hwf=>?_
 try simp (maxSteps:=9^9) only[go_sem]
 repeat refine And.intro (by first|omega|(constructor<;>omega)|kernel_rfl) ?_
 refine CallW.mk (c1) ?_
 try simp (maxSteps:=9^9) only[go_sem]
 repeat refine And.intro (by first|omega|(constructor<;>omega)|kernel_rfl) ?_
 refine CallW.mk (c2) ?_
 try simp (maxSteps:=9^9) only[go_sem]
 all_goals repeat refine And.intro (by first|omega|(constructor<;>omega)|kernel_rfl) ?_
 all_goals first|kernel_rfl|omega|rfl
set_option maxRecDepth 100000 in
set_option maxHeartbeats 1000000 in
theorem IsShortestS_fn (s:DSc) (p:DS) (l:List DS) (hz:szP (plcF p l).2) (hl:∀ x ∈ l,szP x.2) (hn:l.length<=1048576):Fn Tryz.prog 36 [⟨tScene,s⟩,⟨tStep,p⟩,⟨.slice tStep,l⟩] false [⟨.bool,eqb (shD s p l) l⟩]:=by
 have c1:=(ShortenS_fn s p l hz hl hn).sh
 have c2:=l24Same_fn (shD s p l) l
 refine fn_enter tabOK mixes Tryz.func36 rfl rfl _ Tryz.ntmps36 _ Tryz.results36 (by simp) fun hwf=>?_
 try simp (maxSteps:=9^9) only[go_sem]
 repeat refine And.intro (by first|omega|(constructor<;>omega)|kernel_rfl) ?_
 refine CallW.mk (c1) ?_
 try simp (maxSteps:=9^9) only[go_sem]
 repeat refine And.intro (by first|omega|(constructor<;>omega)|kernel_rfl) ?_
 refine CallW.mk (c2) ?_
 try simp (maxSteps:=9^9) only[go_sem]
 all_goals repeat refine And.intro (by first|omega|(constructor<;>omega)|kernel_rfl) ?_
 all_goals first|kernel_rfl|omega|rfl
end Go.Proofs.YtffdhjnbppagjaaGreat.DW


namespace Go.Proofs.YtffdhjnbppagjaaGreat
open Go.RowKit
def ecVec (x:DVec):Nat:=1+1
def emVec (x:DVec) (k:Int):DVec:=(k,k+1)
def cnVecS:DVecS->Nat
 | []=>0
 | x :: l=>ecVec x+cnVecS l
theorem cnVecS_snoc (l:DVecS) (x:DVec):cnVecS (l++[x])=cnVecS l+ecVec x:=by
 induction l with
 | nil=>simp [cnVecS]
 | cons y l ih=>simp [cnVecS,ih]; omega
theorem cnVecS_take (l:DVecS) (k:Nat):cnVecS (l.take k)<=cnVecS l:=by
 induction l generalizing k with
 | nil=>simp [cnVecS]
 | cons y l ih=>cases k with
  | zero=>simp [cnVecS]
  | succ k=>have:=ih k; simp [cnVecS]; omega
def mkVecS:DVecS->Int->DVecS
 | [],_=>[]
 | x :: l,k=>emVec x k :: mkVecS l (k+ecVec x)
theorem mkVecS_len (l:DVecS) (k:Int):(mkVecS l k).length=l.length:=by
 induction l generalizing k with
 | nil=>rfl
 | cons y l ih=>simp [mkVecS,ih]
theorem mkVecS_snoc (l:DVecS) (x:DVec) (k:Int):mkVecS (l++[x]) k=mkVecS l k++[emVec x (k+cnVecS l)]:=by
 induction l generalizing k with
 | nil=>simp [mkVecS,cnVecS]
 | cons y l ih=>simp only [List.cons_append,mkVecS,ih,cnVecS]; rw [show k+(ecVec y:Int)+(cnVecS l:Int)=k+((ecVec y+cnVecS l:Nat):Int) from by omega]
def mkTour (x:DTour) (k:Int):DTour:=(mkVecS x.1 k,mkPlacement x.2.1 (k+cnVecS x.1),mkStepS x.2.2 (k+cnVecS x.1+cnPlacement x.2.1))
set_option maxRecDepth 100000 in
set_option maxHeartbeats 1000000 in
theorem markVecS_any (v:Value) (x:DVecS) (k:Int) (fp:List Nat) (w:World) (hx:RVecS.rep w [v] x fp) (hn:fp.Nodup) (hf:∀ b ∈ fp,Free w b) (h0:0<=k) (h1:k+cnVecS x<=1073741824) :
  Calls Tryz.prog 88 #[v,.int .i64 k] w (Post (MarkPost RVecS [v] (mkVecS x k) fp (k+cnVecS x) w)):=by
 obtain ⟨ad,c,hv,hlc,hm,hh⟩:=hx
 injection hv with hv
 subst hv
 unfold maxLen at hm
 rcases hh with ⟨rfl,rfl⟩|⟨b,off,fps,hl,rfl,rfl,he⟩
 ·go_enter Tryz.func88,Tryz.ntmps88
  go_wp2
  go_loopw [1,5] (fun kk i wr=>i=.int .i64 0/\kk=.int .i64 k/\wr=w) (fun _ _ _=>0)
  case atStart=>exact ⟨rfl,rfl,rfl⟩
  case round =>
   obtain ⟨rfl,rfl,rfl⟩:=hrel
   go_wp2
   go_ret
   exact ⟨_,rfl,congrArg (Value.int .i64) (by simp [cnVecS]),⟨ad,c,rfl,hlc,by unfold maxLen; omega,.inl ⟨rfl,rfl⟩⟩,Upto.refl _ _⟩
 have HN:=Lib.hid hn; have HF:=Lib.hid hf; have HE:=Lib.hid he; have HL:=Lib.hid hl; clear hn hf he hl
 go_enter Tryz.func88,Tryz.ntmps88
 go_wp2
 go_loopw [1,5] (fun kk i wr=>∃ j:Nat,j<=x.length/\i=.int .i64 j/\kk=.int .i64 (k+(cnVecS (x.take j):Nat))/\Elems RVec wr b off (mkVecS (x.take j) k++x.drop j) fps/\Upto (b :: fps.flatten) w wr) (fun _ i _=>x.length - (intOf i).toNat)
 case atStart=>exact ⟨0,Nat.zero_le _,rfl,congrArg (Value.int .i64) (by simp [cnVecS]),by simpa [mkVecS] using HE.out,Upto.refl _ _⟩
 case round =>
  obtain ⟨j,hj,rfl,rfl,hE,hU⟩:=hrel
  have HEr:=Lib.hid hE; have HU:=Lib.hid hU; clear hE hU
  by_cases hjl:j < x.length
  rotate_left
  ·obtain rfl:j=x.length:=by omega
   go_wp2
   go_ret
   have h:=HEr.out
   rw [List.take_length,List.drop_length,List.append_nil] at h
   have hml:=mkVecS_len x k
   exact ⟨_,rfl,congrArg (Value.int .i64) (by rw [List.take_length]),⟨_,c,by rw [hml],by rw [hml]; exact hlc,by unfold maxLen; omega,.inr ⟨b,off,fps,fun e=>HL.out (List.eq_nil_of_length_eq_zero (by rw [<-hml,e]; rfl)),rfl,rfl,h⟩⟩,HU.out⟩
  have hml:(mkVecS (x.take j) k).length=j:=by rw [mkVecS_len,List.length_take]; omega
  have hget:(mkVecS (x.take j) k++x.drop j)[j]? = some x[j]:=by rw [List.getElem?_append_right (by omega),hml]; simp
  obtain ⟨f,cs,hfj,hr,hcs⟩:=HEr.out.2 j _ hget
  have hfr:=HU.out.free b List.mem_cons_self (HF.out b List.mem_cons_self)
  have hbf:b ∉ f:=fun h=>(List.nodup_cons.1 HN.out).1 (flat_mem hfj b h)
  have hff:∀ z ∈ f,Free wr z:=fun z hz=>HU.out.free z (List.mem_cons_of_mem _ (flat_mem hfj z hz)) (HF.out z (List.mem_cons_of_mem _ (flat_mem hfj z hz)))
  have hfn:f.Nodup:=(List.pairwise_flatten.1 (List.nodup_cons.1 HN.out).2).1 f (List.mem_of_getElem? hfj)
  have hec:cnVecS (x.take j)+ecVec x[j]=cnVecS (x.take (j+1)):=by rw [List.take_succ_eq_append_getElem hjl,cnVecS_snoc]
  have hect:=cnVecS_take x (j+1)
  obtain ⟨q,hq⟩:∃ q:Int,q=k+(cnVecS (x.take j):Nat):=⟨_,rfl⟩
  have hq0:0<=q:=by omega
  have hq1:q+(ecVec x[j]:Nat)<=1073741824:=by omega
  rw [<-hq]
  have HQ:=Lib.hid hq; have HEC:=Lib.hid hec; have HML:=Lib.hid hml; have HFJ:=Lib.hid hfj
  clear hq hec hml hget hfj hect
  obtain ⟨c0,c1,rfl⟩:=list2 (RVec.len hr)
  obtain ⟨f0,f1,rfl,hp0,hp1⟩:=rep_split [c0] [c1] rfl hr
  obtain ⟨he0,rfl,hI0⟩:=hp0
  injection he0 with he0; subst he0
  obtain ⟨he1,rfl,hI1⟩:=hp1
  injection he1 with he1; subst he1
  have hnd:=hfn
  simp only [List.nil_append,List.append_assoc] at hnd
  have HFF:=Lib.hid hff; have HBF:=Lib.hid hbf; clear hff hbf hfn
  have nd0:=hnd
  have hqe:=hq1; simp only [ecVec] at hqe
  have hbl0:b < wr.heap.size:=hfr.lt
  have g0:wr.cell? ⟨b,off+j * 2,none⟩=some (Value.int .i64 x[j].1):=hcs 0 _ rfl
  have g1:wr.cell? ⟨b,off+j * 2+1,none⟩=some (Value.int .i64 x[j].2):=hcs 1 _ rfl
  have hfz:=hfr.frozen
  have HT0:=Lib.hid (Upto.refl (b :: ([]++[])) wr)
  clear hcs hfr
  go_wp2
  go_roundw
  case rel =>
   have hBe:Upto [b] wr _:=(((Upto.refl [b] wr).setCell (p:=⟨b,off+j * 2,none⟩) List.mem_cons_self (Value.int .i64 (q))).setCell (p:=⟨b,off+j * 2+1,none⟩) List.mem_cons_self (Value.int .i64 (q+1)))
   have e0:((wr.setCell ⟨b,off+j * 2,none⟩ (Value.int .i64 (q))).setCell ⟨b,off+j * 2+1,none⟩ (Value.int .i64 (q+1))).cell? ⟨b,off+j * 2,none⟩=some (Value.int .i64 (q)):=by simp [go_sem,g0]
   have e1:((wr.setCell ⟨b,off+j * 2,none⟩ (Value.int .i64 (q))).setCell ⟨b,off+j * 2+1,none⟩ (Value.int .i64 (q+1))).cell? ⟨b,off+j * 2+1,none⟩=some (Value.int .i64 (q+1)):=by simp [go_sem,g1]
   have hup:=HEr.out.update (w':=((wr.setCell ⟨b,off+j * 2,none⟩ (Value.int .i64 (q))).setCell ⟨b,off+j * 2+1,none⟩ (Value.int .i64 (q+1)))) (x':=emVec x[j] q) (cs':=[(Value.int .i64 (q)),(Value.int .i64 (q+1))]) HN.out HFJ.out (rep_pair (rep_int [] (by first|rfl|(simp only [ecVec]; omega)) (by constructor<;>omega)) (rep_int [] (by first|rfl|(simp only [ecVec]; omega)) (by constructor<;>omega))) (cells_cons e0 (cells_cons e1 cells_nil))
    (fun z hz hzb hzf=>(((HT0.out.setCell (p:=⟨b,off+j * 2,none⟩) List.mem_cons_self (Value.int .i64 (q))).setCell (p:=⟨b,off+j * 2+1,none⟩) List.mem_cons_self (Value.int .i64 (q+1)))).block z hz (by rw [List.mem_cons]; exact fun h=>h.elim hzb hzf))
    (fun o ho=>have ho:o < off+j * 2\/off+j * 2+2<=o:=by have h1:(j+1) * 2=j * 2+2:=Nat.succ_mul _ _; have h2:o < off+j * 2\/off+(j+1) * 2<=o:=ho; omega
     ((setCell_out (Value.int .i64 (q+1)) (by omega)).trans ((setCell_out (Value.int .i64 (q)) (by omega)).trans rfl)))
   have e:(mkVecS (x.take j) k++x.drop j).set j (emVec x[j] q)=mkVecS (x.take (j+1)) k++x.drop (j+1):=by
    rw [List.set_append_right _ _ (by rw [HML.out]; exact Nat.le_refl _),HML.out,Nat.sub_self,List.drop_eq_getElem_cons hjl,List.set_cons_zero,List.take_succ_eq_append_getElem hjl,mkVecS_snoc,<-HQ.out]
    simp
   rw [e] at hup
   refine ⟨j+1,by omega,by go_num,congrArg (Value.int .i64) ?_,hup,HU.out.trans ((((HT0.out.setCell (p:=⟨b,off+j * 2,none⟩) List.mem_cons_self (Value.int .i64 (q))).setCell (p:=⟨b,off+j * 2+1,none⟩) List.mem_cons_self (Value.int .i64 (q+1)))).mono ?_)⟩
   ·have h1:=HQ.out; have h2:=HEC.out; simp only [ecVec] at h2; omega
   ·intro z hz; rcases List.mem_cons.1 hz with rfl|hz; exact List.mem_cons_self; exact List.mem_cons_of_mem _ (flat_mem HFJ.out z hz)
  case measure=>simp [intOf]; omega
namespace DW
@[go_sem] theorem mkTour_sc0 (x:DTour) (k:Int):(mkTour x k).2.1.1=x.2.1.1:=(rfl)
@[go_sem] theorem mkTour_sc1 (x:DTour) (k:Int):(mkTour x k).2.1.2.1.1.1=x.2.1.2.1.1.1:=(rfl)
@[go_sem] theorem mkTour_sc2 (x:DTour) (k:Int):(mkTour x k).2.1.2.2.1.1=x.2.1.2.2.1.1:=(rfl)
theorem cnVecS_le (x:DVecS):cnVecS x=2 * x.length:=by
 induction x with
 | nil=>rfl
 | cons y l ih=>rw [cnVecS,ih,List.length_cons]; unfold ecVec; omega
end DW
end Go.Proofs.YtffdhjnbppagjaaGreat

namespace Go.Proofs.YtffdhjnbppagjaaGreat
open Go.RowKit
def cnVecSS:DVecSS->Nat
 | []=>0
 | x :: l=>cnVecS x+cnVecSS l
theorem cnVecSS_snoc (l:DVecSS) (x:DVecS):cnVecSS (l++[x])=cnVecSS l+cnVecS x:=by
 induction l with
 | nil=>simp [cnVecSS]
 | cons y l ih=>simp [cnVecSS,ih]; omega
theorem cnVecSS_take (l:DVecSS) (k:Nat):cnVecSS (l.take k)<=cnVecSS l:=by
 induction l generalizing k with
 | nil=>simp [cnVecSS]
 | cons y l ih=>cases k with
  | zero=>simp [cnVecSS]
  | succ k=>have:=ih k; simp [cnVecSS]; omega
def mkVecSS:DVecSS->Int->DVecSS
 | [],_=>[]
 | x :: l,k=>mkVecS x k :: mkVecSS l (k+cnVecS x)
theorem mkVecSS_len (l:DVecSS) (k:Int):(mkVecSS l k).length=l.length:=by
 induction l generalizing k with
 | nil=>rfl
 | cons y l ih=>simp [mkVecSS,ih]
theorem mkVecSS_snoc (l:DVecSS) (x:DVecS) (k:Int):mkVecSS (l++[x]) k=mkVecSS l k++[mkVecS x (k+cnVecSS l)]:=by
 induction l generalizing k with
 | nil=>simp [mkVecSS,cnVecSS]
 | cons y l ih=>simp only [List.cons_append,mkVecSS,ih,cnVecSS]; rw [show k+(cnVecS y:Int)+(cnVecSS l:Int)=k+((cnVecS y+cnVecSS l:Nat):Int) from by omega]
def cnScene (x:DScene):Nat:=cnVecS x.2.2.1+cnVecSS x.2.2.2.1+cnVecS x.2.2.2.2
def mkScene (x:DScene) (k:Int):DScene:=(x.1,x.2.1,mkVecS x.2.2.1 k,mkVecSS x.2.2.2.1 (k+cnVecS x.2.2.1),mkVecS x.2.2.2.2 (k+cnVecS x.2.2.1+cnVecSS x.2.2.2.1))
set_option maxHeartbeats 400000 in
theorem markVecSS_any (v:Value) (x:DVecSS) (k:Int) (fp:List Nat) (w:World) (hx:RVecSS.rep w [v] x fp) (hn:fp.Nodup) (hf:∀ b ∈ fp,Free w b) (h0:0<=k) (h1:k+cnVecSS x<=1073741824) :
  Calls Tryz.prog 89 #[v,.int .i64 k] w (Post (MarkPost RVecSS [v] (mkVecSS x k) fp (k+cnVecSS x) w)):=by
 obtain ⟨ad,c,hv,hlc,hm,hh⟩:=hx
 injection hv with hv
 subst hv
 unfold maxLen at hm
 rcases hh with ⟨rfl,rfl⟩|⟨b,off,fps,hl,rfl,rfl,he⟩
 ·go_enter Tryz.func89,Tryz.ntmps89
  go_wp2
  go_loopw [1,5] (fun kk i wr=>i=.int .i64 0/\kk=.int .i64 k/\wr=w) (fun _ _ _=>0)
  case atStart=>exact ⟨rfl,rfl,rfl⟩
  case round =>
   obtain ⟨rfl,rfl,rfl⟩:=hrel
   go_wp2
   go_ret
   exact ⟨_,rfl,congrArg (Value.int .i64) (by simp [cnVecSS]),⟨ad,c,rfl,hlc,by unfold maxLen; omega,.inl ⟨rfl,rfl⟩⟩,Upto.refl _ _⟩
 have HN:=Lib.hid hn; have HF:=Lib.hid hf; have HE:=Lib.hid he; have HL:=Lib.hid hl; clear hn hf he hl
 go_enter Tryz.func89,Tryz.ntmps89
 go_wp2
 go_loopw [1,5] (fun kk i wr=>∃ j:Nat,j<=x.length/\i=.int .i64 j/\kk=.int .i64 (k+(cnVecSS (x.take j):Nat))/\Elems RVecS wr b off (mkVecSS (x.take j) k++x.drop j) fps/\Upto (b :: fps.flatten) w wr) (fun _ i _=>x.length - (intOf i).toNat)
 case atStart=>exact ⟨0,Nat.zero_le _,rfl,congrArg (Value.int .i64) (by simp [cnVecSS]),by simpa [mkVecSS] using HE.out,Upto.refl _ _⟩
 case round =>
  obtain ⟨j,hj,rfl,rfl,hE,hU⟩:=hrel
  have HEr:=Lib.hid hE; have HU:=Lib.hid hU; clear hE hU
  by_cases hjl:j < x.length
  rotate_left
  ·obtain rfl:j=x.length:=by omega
   go_wp2
   go_ret
   have h:=HEr.out
   rw [List.take_length,List.drop_length,List.append_nil] at h
   have hml:=mkVecSS_len x k
   exact ⟨_,rfl,congrArg (Value.int .i64) (by rw [List.take_length]),⟨_,c,by rw [hml],by rw [hml]; exact hlc,by unfold maxLen; omega,.inr ⟨b,off,fps,fun e=>HL.out (List.eq_nil_of_length_eq_zero (by rw [<-hml,e]; rfl)),rfl,rfl,h⟩⟩,HU.out⟩
  have hml:(mkVecSS (x.take j) k).length=j:=by rw [mkVecSS_len,List.length_take]; omega
  have hget:(mkVecSS (x.take j) k++x.drop j)[j]? = some x[j]:=by rw [List.getElem?_append_right (by omega),hml]; simp
  obtain ⟨f,cs,hfj,hr,hcs⟩:=HEr.out.2 j _ hget
  have hfr:=HU.out.free b List.mem_cons_self (HF.out b List.mem_cons_self)
  have hbf:b ∉ f:=fun h=>(List.nodup_cons.1 HN.out).1 (flat_mem hfj b h)
  have hff:∀ z ∈ f,Free wr z:=fun z hz=>HU.out.free z (List.mem_cons_of_mem _ (flat_mem hfj z hz)) (HF.out z (List.mem_cons_of_mem _ (flat_mem hfj z hz)))
  have hfn:f.Nodup:=(List.pairwise_flatten.1 (List.nodup_cons.1 HN.out).2).1 f (List.mem_of_getElem? hfj)
  have hec:cnVecSS (x.take j)+cnVecS x[j]=cnVecSS (x.take (j+1)):=by rw [List.take_succ_eq_append_getElem hjl,cnVecSS_snoc]
  have hect:=cnVecSS_take x (j+1)
  obtain ⟨q,hq⟩:∃ q:Int,q=k+(cnVecSS (x.take j):Nat):=⟨_,rfl⟩
  have hq0:0<=q:=by omega
  have hq1:q+(cnVecS x[j]:Nat)<=1073741824:=by omega
  rw [<-hq]
  have HQ:=Lib.hid hq; have HEC:=Lib.hid hec; have HML:=Lib.hid hml; have HFJ:=Lib.hid hfj
  clear hq hec hml hget hfj hect
  obtain ⟨c0,rfl⟩:=list1 (RVecS.len hr)
  have HR:=Lib.hid hr; have HFF:=Lib.hid hff; have HBF:=Lib.hid hbf; have HFN:=Lib.hid hfn; clear hr hff hbf hfn
  have hbl0:b < wr.heap.size:=hfr.lt
  have g0:wr.cell? ⟨b,off+j,none⟩=some c0:=by simpa [Rp.slice] using hcs 0 _ rfl
  have hl0:(0:Int)<=(cnVecS x[j]:Nat):=Int.natCast_nonneg _
  clear hcs hfr
  go_wp2_with fail
  refine (markVecS_any _ _ _ f _ HR.out HFN.out HFF.out (by omega) (by omega)).mono ?_
  rintro e w1 ⟨v,rfl,rfl,hmm,hu1⟩
  have HMM:=Lib.hid hmm; have HU1:=Lib.hid hu1
  have hcb1:=hu1.cell (b:=b) hbl0 HBF.out
  clear hmm hu1
  go_wp2
  go_roundw
  case rel =>
   have e0:w1.cell? ⟨b,off+j,none⟩=some c0:=by simp [go_sem,hcb1,g0]
   have hup:=HEr.out.update (w':=w1) (x':=mkVecS x[j] q) (cs':=[c0]) HN.out HFJ.out HMM.out (cells_cons (by simpa [Rp.slice] using e0) cells_nil)
    (fun z hz _ hzf=>HU1.out.block z hz hzf)
    (fun o _=>hcb1 o)
   have e:(mkVecSS (x.take j) k++x.drop j).set j (mkVecS x[j] q)=mkVecSS (x.take (j+1)) k++x.drop (j+1):=by
    rw [List.set_append_right _ _ (by rw [HML.out]; exact Nat.le_refl _),HML.out,Nat.sub_self,List.drop_eq_getElem_cons hjl,List.set_cons_zero,List.take_succ_eq_append_getElem hjl,mkVecSS_snoc,<-HQ.out]
    simp
   rw [e] at hup
   refine ⟨j+1,by omega,by go_num,congrArg (Value.int .i64) ?_,hup,HU.out.trans (HU1.out.mono ?_)⟩
   ·have h1:=HQ.out; have h2:=HEC.out; omega
   ·intro z hz; exact List.mem_cons_of_mem _ (flat_mem HFJ.out z hz)
  case measure=>simp [intOf]; omega
set_option maxRecDepth 100000 in
set_option maxHeartbeats 1000000 in
theorem markScene_any (c0 c1 c2 c3 c4 c5 c6:Value) (x:DScene) (k:Int) (fp:List Nat) (w:World) (hx:RScene.rep w [c0,c1,c2,c3,c4,c5,c6] x fp) (hn:fp.Nodup) (hf:∀ b ∈ fp,Free w b) (h0:0<=k) (h1:k+cnScene x<=1073741824) :
  Calls Tryz.prog 20 #[.agg #[c0,c1,c2,c3,c4,c5,c6],.int .i64 k] w (Post (MarkPost RScene [c0,c1,c2,c3,c4,c5,c6] (mkScene x k) fp (k+cnScene x) w)):=by
 have hlt:=RScene.lt hx
 have hflat:∀ {d0 d1:Value} {y:DVec} {f:List Nat},RVec.rep w [d0,d1] y f->f=[]:=fun {d0 d1 y f} h=>by
  obtain ⟨_,_,rfl,h1,h2⟩:=rep_split [d0] [d1] rfl h
  rw [h1.2.1,h2.2.1]; rfl
 obtain ⟨fa,fr1,rfl,hra,hrest1⟩:=rep_split [c0,c1] [c2,c3,c4,c5,c6] rfl hx
 obtain ⟨fb,fr2,rfl,hrb,hrest2⟩:=rep_split [c2,c3] [c4,c5,c6] rfl hrest1
 obtain rfl:=hflat hra
 obtain rfl:=hflat hrb
 obtain ⟨f0,frest,rfl,hr0,hrest⟩:=rep_split [c4] [c5,c6] rfl hrest2
 obtain ⟨f1,f2,rfl,hr1,hr2⟩:=rep_split [c5] [c6] rfl hrest
 simp only [List.nil_append] at hn hf hlt
 obtain ⟨nd0,nd12,dj0,dj0'⟩:=nodup_app hn
 obtain ⟨nd1,nd2,dj1,dj1'⟩:=nodup_app nd12
 have m0:∀ b,b ∈ f0->b ∈ f0++(f1++f2):=fun b hb=>List.mem_append.2 (.inl hb)
 have m1:∀ b,b ∈ f1->b ∈ f0++(f1++f2):=fun b hb=>List.mem_append.2 (.inr (List.mem_append.2 (.inl hb)))
 have m2:∀ b,b ∈ f2->b ∈ f0++(f1++f2):=fun b hb=>List.mem_append.2 (.inr (List.mem_append.2 (.inr hb)))
 have n01:∀ b,b ∈ f0->b ∉ f1:=fun b h g=>dj0 b h (List.mem_append.2 (.inl g))
 have n02:∀ b,b ∈ f0->b ∉ f2:=fun b h g=>dj0 b h (List.mem_append.2 (.inr g))
 have n10:∀ b,b ∈ f1->b ∉ f0:=fun b h g=>n01 b g h
 have n20:∀ b,b ∈ f2->b ∉ f0:=fun b h g=>n02 b g h
 have HRA:=Lib.hid hra; have HRB:=Lib.hid hrb
 have HR0:=Lib.hid hr0; have HR1:=Lib.hid hr1; have HR2:=Lib.hid hr2
 have HF:=Lib.hid hf; have HLT:=Lib.hid hlt; clear hr0 hr1 hr2 hn hf hlt hx hrest hrest1 hrest2 hra hrb hflat
 have hub:=h1; unfold cnScene at hub
 have hp0:(0:Int)<=(cnVecS x.2.2.1:Nat):=Int.natCast_nonneg _
 have hp1:(0:Int)<=(cnVecSS x.2.2.2.1:Nat):=Int.natCast_nonneg _
 have hp2:(0:Int)<=(cnVecS x.2.2.2.2:Nat):=Int.natCast_nonneg _
 have hend:k+(cnVecS x.2.2.1:Nat)+(cnVecSS x.2.2.2.1:Nat)+(cnVecS x.2.2.2.2:Nat)=k+(cnScene x:Nat):=by unfold cnScene; omega
 have HEND:=Lib.hid hend; clear hend
 go_enter Tryz.func20,Tryz.ntmps20
 have hu0:Below w.heap.size w (w.alloc (Obj.cells #[c0,c1,c2,c3,c4,c5,c6] 45)):=(Below.refl w.heap.size w).alloc (Nat.le_refl _) _
 go_wp2_with fail
 refine (markVecS_any _ _ _ f0 _ (RVecS.frame HR0.out fun b hb=>hu0.block b (HLT.out b (m0 b hb))) nd0 (fun b hb=>(HF.out b (m0 b hb)).frame (hu0.block b (HLT.out b (m0 b hb)))) (by omega) (by omega)).mono ?_
 rintro e w1 ⟨v,rfl,rfl,hm1,hu1⟩
 have HMM1:=Lib.hid hm1; clear hm1
 have hcb1:∀ o,w1.cell? ⟨w.heap.size,o,none⟩=(w.alloc (Obj.cells #[c0,c1,c2,c3,c4,c5,c6] 45)).cell? ⟨w.heap.size,o,none⟩:=fun o=>hu1.cell (by simp) (fun hb=>absurd (HLT.out _ (m0 _ hb)) (by omega)) o
 go_wp2_with fail
 have hr11:RVecSS.rep w1 [c5] x.2.2.2.1 f1:=Rp.upto (RVecSS.frame HR1.out fun b hb=>hu0.block b (HLT.out b (m1 b hb))) hu1 n10
 have hfr1:∀ b ∈ f1,Free w1 b:=fun b hb=>((HF.out b (m1 b hb)).frame (hu0.block b (HLT.out b (m1 b hb)))).frame (hu1.block b (Nat.lt_of_lt_of_le (HLT.out b (m1 b hb)) hu0.size) (n10 b hb))
 have hr21:RVecS.rep w1 [c6] x.2.2.2.2 f2:=Rp.upto (RVecS.frame HR2.out fun b hb=>hu0.block b (HLT.out b (m2 b hb))) hu1 n20
 have hfr2:∀ b ∈ f2,Free w1 b:=fun b hb=>((HF.out b (m2 b hb)).frame (hu0.block b (HLT.out b (m2 b hb)))).frame (hu1.block b (Nat.lt_of_lt_of_le (HLT.out b (m2 b hb)) hu0.size) (n20 b hb))
 have hlt1:∀ b ∈ f1++f2,b < w1.heap.size:=fun b hb=>Nat.lt_of_lt_of_le (HLT.out b (List.mem_append.2 (.inr hb))) (Nat.le_trans hu0.size hu1.size)
 refine (markVecSS_any _ _ _ f1 _ hr11 nd1 hfr1 (by omega) (by omega)).mono ?_
 rintro e w2 ⟨v,rfl,rfl,hm2,hu2⟩
 have HMM2:=Lib.hid hm2; clear hm2
 have hcb2:∀ o,w2.cell? ⟨w.heap.size,o,none⟩=(w.alloc (Obj.cells #[c0,c1,c2,c3,c4,c5,c6] 45)).cell? ⟨w.heap.size,o,none⟩:=fun o=>(hu2.cell (Nat.lt_of_lt_of_le (by simp) hu1.size) (fun hb=>absurd (HLT.out _ (m1 _ hb)) (by omega)) o).trans (hcb1 o)
 go_wp2_with fail
 have hr22:RVecS.rep w2 [c6] x.2.2.2.2 f2:=Rp.upto hr21 hu2 dj1'
 have hfr22:∀ b ∈ f2,Free w2 b:=fun b hb=>(hfr2 b hb).frame (hu2.block b (hlt1 b (List.mem_append.2 (.inr hb))) (dj1' b hb))
 refine (markVecS_any _ _ _ f2 _ hr22 nd2 hfr22 (by omega) (by omega)).mono ?_
 rintro e w3 ⟨v,rfl,rfl,hm3,hu3⟩
 have HMM3:=Lib.hid hm3; clear hm3
 go_wp2
 go_ret
 exact ⟨_,rfl,congrArg (Value.int .i64) HEND.out,rep_pair (RVec.frame HRA.out fun b hb=>by cases hb) (rep_pair (RVec.frame HRB.out fun b hb=>by cases hb) (rep_pair (Rp.upto (Rp.upto HMM1.out hu2 n01) hu3 n02) (rep_pair (Rp.upto HMM2.out hu3 dj1) HMM3.out))),
  (((Upto.of_below hu0 (Nat.le_refl _)).trans (hu1.mono fun b hb=>m0 b hb)).trans (hu2.mono fun b hb=>m1 b hb)).trans (hu3.mono fun b hb=>m2 b hb)⟩
namespace DW
theorem markScene_fn (x:DScene) (k:Int) (h0:0<=k) (h1:k+cnScene x<=1073741824):FnM Tryz.prog 20 DW.tScene x (mkScene x k) k (k+cnScene x):=by
 refine FnM.of (enters Tryz.func20 rfl rfl) (small_I64 (by omega) h1) fun w v cs fp hp hx hn hf=>?_
 obtain rfl:=pk_agg rfl hp
 obtain ⟨c0,c1,c2,c3,c4,c5,c6,rfl⟩:=list7 (RScene.len hx)
 exact markScene_any _ _ _ _ _ _ _ x k fp w hx hn hf h0 h1
@[go_sem] theorem mkScene_s0 (x:DScene) (k:Int):(mkScene x k).1=x.1:=(rfl)
@[go_sem] theorem mkScene_s1 (x:DScene) (k:Int):(mkScene x k).2.1=x.2.1:=(rfl)
theorem cnVecSS_le (x:DVecSS):cnVecSS x=2 * Go.Proofs.YtffdhjnbppagjaaGreat.tVecSS x:=by
 induction x with
 | nil=>rfl
 | cons y l ih=>rw [cnVecSS,ih,cnVecS_le,Go.Proofs.YtffdhjnbppagjaaGreat.tVecSS]; omega
end DW
theorem cnScene_le (x:DScene):cnScene x<=3 * tScene x:=by
 have h1:=DW.cnVecS_le x.2.2.1
 have h2:=DW.cnVecSS_le x.2.2.2.1
 have h3:=DW.cnVecS_le x.2.2.2.2
 unfold cnScene tScene
 omega
end Go.Proofs.YtffdhjnbppagjaaGreat

namespace Go.Proofs.YtffdhjnbppagjaaGreat.DW
open Go.RowKit
theorem cnS_drop:∀ (l:List DS) (i:Nat),cnStepS (l.drop i)<=cnStepS l
 | [],i=>by simp
 | x :: l,0=>Nat.le_refl _
 | x :: l,i+1=>Nat.le_trans (cnS_drop l i) (by show cnStepS l<=ecStep x+cnStepS l; omega)
theorem cnS_at {l:List DS} {b:Nat} (h:b < l.length):cnStepS (l.drop b)=ecStep (nth (t:=tStep) l b)+cnStepS (l.drop (b+1)):=by
 rw [List.drop_eq_getElem_cons h,nth_lt h]; rfl
theorem cn_shG {s:DSc} {l:List DS}:∀ (n:Nat) {p:DS} {i:Nat},l.length - i<=n->cnStepS (shG s l p i)<=cnStepS (l.drop i)
 | 0,p,i,h=>by rw [shG_end (by omega)]; exact Nat.zero_le _
 | n+1,p,i,h=>by
  by_cases hi:i < l.length
  ·rw [shG_at hi]
   have h1:=bst_lo s p l i (nz l i)
   have h2:=bst_lt (s:=s) (p:=p) hi
   have h3:=cn_shG (s:=s) (l:=l) n (p:=stp p (nth (t:=tStep) l (bst s p l i (nz l i)))) (i:=bst s p l i (nz l i)+1) (by omega)
   have h4:=cnS_at h2
   have h5:=cnS_drop (l.drop i) (bst s p l i (nz l i) - i)
   rw [List.drop_drop,show i+(bst s p l i (nz l i) - i)=bst s p l i (nz l i) by omega] at h5
   show ecStep _+cnStepS _<=_
   omega
  ·rw [shG_end (by omega)]; exact Nat.zero_le _
theorem cn_sh (s:DSc) (p:DS) (l:List DS) (h:l.length+tStepS l<=1048576):cnStepS (shD s p l)<=3145728:=by
 have h0:=cnStepS_le l
 unfold shD
 split
 ·have:=cn_shG (s:=s) (l:=l) l.length (p:=p) (i:=0) (by omega)
  rw [List.drop_zero] at this
  omega
 ·omega
end Go.Proofs.YtffdhjnbppagjaaGreat.DW

namespace Go.Proofs.YtffdhjnbppagjaaGreat.DW
open Go.RowKit
set_option maxRecDepth 100000 in
set_option maxHeartbeats 8000000 in
theorem lawShortenMotion_fn (x0:DScene) (x1:DPlacement) (x2:DStepS):Fn Tryz.prog 8 [⟨DW.tScene,x0⟩,⟨DW.tStep,x1⟩,⟨.slice DW.tStep,x2⟩] false [⟨.bool,true⟩]:=by
 refine fn_enter tabOK mixes Tryz.func8 rfl rfl _ Tryz.ntmps8 _ Tryz.results8 (by simp) fun hwf=>?_
 try simp (maxSteps:=9^9) only[go_sem]
 repeat refine And.intro (by first|omega|(constructor<;>omega)|kernel_rfl) ?_
 refine CallW.mk (szScene_fn x0 1048576 (by omega) (by omega)) ?_
 try simp (maxSteps:=9^9) only[go_sem]
 repeat refine And.intro (by first|omega|(constructor<;>omega)|kernel_rfl) ?_
 have hr0:=szr_lo 1048576 (Go.Proofs.YtffdhjnbppagjaaGreat.tScene x0) (by omega)
 refine CondW_dec (fun hlt=>?_) (fun hge0=>?_)
 ·try simp (maxSteps:=9^9) only[go_sem]
 have hge0':0<=szr 1048576 (Go.Proofs.YtffdhjnbppagjaaGreat.tScene x0):=by omega
 try simp (maxSteps:=9^9) only[go_sem]
 repeat refine And.intro (by first|omega|(constructor<;>omega)|kernel_rfl) ?_
 refine CallW.mk (szPlacement_fn x1 (szr 1048576 (Go.Proofs.YtffdhjnbppagjaaGreat.tScene x0)) (by omega) (by omega)) ?_
 try simp (maxSteps:=9^9) only[go_sem]
 repeat refine And.intro (by first|omega|(constructor<;>omega)|kernel_rfl) ?_
 have hr1:=szr_lo (szr 1048576 (Go.Proofs.YtffdhjnbppagjaaGreat.tScene x0)) (Go.Proofs.YtffdhjnbppagjaaGreat.tPlacement x1) (by omega)
 refine CondW_dec (fun hlt=>?_) (fun hge1=>?_)
 ·try simp (maxSteps:=9^9) only[go_sem]
 have hge1':0<=szr (szr 1048576 (Go.Proofs.YtffdhjnbppagjaaGreat.tScene x0)) (Go.Proofs.YtffdhjnbppagjaaGreat.tPlacement x1):=by omega
 try simp (maxSteps:=9^9) only[go_sem]
 repeat refine And.intro (by first|omega|(constructor<;>omega)|kernel_rfl) ?_
 refine CallW.mk (szStepS_fn x2 (szr (szr 1048576 (Go.Proofs.YtffdhjnbppagjaaGreat.tScene x0)) (Go.Proofs.YtffdhjnbppagjaaGreat.tPlacement x1)) (by omega) (by omega)) ?_
 try simp (maxSteps:=9^9) only[go_sem]
 repeat refine And.intro (by first|omega|(constructor<;>omega)|kernel_rfl) ?_
 have hr2:=szr_lo (szr (szr 1048576 (Go.Proofs.YtffdhjnbppagjaaGreat.tScene x0)) (Go.Proofs.YtffdhjnbppagjaaGreat.tPlacement x1)) ((x2.length+Go.Proofs.YtffdhjnbppagjaaGreat.tStepS x2)) (by omega)
 refine CondW_dec (fun hlt=>?_) (fun hge2=>?_)
 ·try simp (maxSteps:=9^9) only[go_sem]
 have hge2':0<=szr (szr (szr 1048576 (Go.Proofs.YtffdhjnbppagjaaGreat.tScene x0)) (Go.Proofs.YtffdhjnbppagjaaGreat.tPlacement x1)) ((x2.length+Go.Proofs.YtffdhjnbppagjaaGreat.tStepS x2)):=by omega
 have hs0:=(szr_ok hge0').1
 have hs1:=(szr_ok hge1').1
 have hs2:=(szr_ok hge2').1
 have hle0:Go.Proofs.YtffdhjnbppagjaaGreat.tScene x0<=1048576:=by omega
 have hle1:Go.Proofs.YtffdhjnbppagjaaGreat.tPlacement x1<=1048576:=by omega
 have hle2:(x2.length+Go.Proofs.YtffdhjnbppagjaaGreat.tStepS x2)<=1048576:=by omega
 clear hr0 hs0 hge0 hge0' hr1 hs1 hge1 hge1' hr2 hs2 hge2 hge2'
 have hz2:∀ x ∈ x2,szP x.2:=szP_all (by omega)
 have hz:szP (plcF x1 x2).2:=szP_F (szP_of hle1) hz2
 try simp (maxSteps:=9^9) only[go_sem]
 repeat refine And.intro (by first|omega|(constructor<;>omega)|kernel_rfl) ?_
 refine CallW.mk (toScene_fn x0 hle0) ?_
 try simp (maxSteps:=9^9) only[go_sem]
 repeat refine And.intro (by first|omega|(constructor<;>omega)|kernel_rfl) ?_
 refine CallW.mk (toPlacement_fn x1 hle1) ?_
 try simp (maxSteps:=9^9) only[go_sem]
 repeat refine And.intro (by first|omega|(constructor<;>omega)|kernel_rfl) ?_
 refine CallW.mk (toStepS_fn x2 hle2) ?_
 try simp (maxSteps:=9^9) only[go_sem]
 repeat refine And.intro (by first|omega|(constructor<;>omega)|kernel_rfl) ?_
 refine CallW.mk (ShortenS_fn x0 x1 x2 hz hz2 (by omega)) ?_
 try simp (maxSteps:=9^9) only[go_sem]
 repeat refine And.intro (by first|omega|(constructor<;>omega)|kernel_rfl) ?_
 refine CallW.mx (toScene_fn x0 hle0) ?_
 try simp (maxSteps:=9^9) only[go_sem]
 repeat refine And.intro (by first|omega|(constructor<;>omega)|kernel_rfl) ?_
 refine CallW.mx (toPlacement_fn x1 hle1) ?_
 try simp (maxSteps:=9^9) only[go_sem]
 repeat refine And.intro (by first|omega|(constructor<;>omega)|kernel_rfl) ?_
 refine CallW.mx (toStepS_fn x2 hle2) ?_
 try simp (maxSteps:=9^9) only[go_sem]
 repeat refine And.intro (by first|omega|(constructor<;>omega)|kernel_rfl) ?_
 refine CallW.mx (ShortenI_fn x0 x1 x2 hz2 (by omega)) ?_
 try simp (maxSteps:=9^9) only[go_sem]
 repeat refine And.intro (by first|omega|(constructor<;>omega)|kernel_rfl) ?_
 refine CallW.mx (eqStepS_fn (shD x0 x1 x2) (shD x0 x1 x2)) ?_
 try simp (maxSteps:=9^9) only[go_sem]
 repeat refine And.intro (by first|omega|(constructor<;>omega)|kernel_rfl) ?_
 refine CallW.mk (toScene_fn x0 hle0) ?_
 try simp (maxSteps:=9^9) only[go_sem]
 repeat refine And.intro (by first|omega|(constructor<;>omega)|kernel_rfl) ?_
 refine CallW.mx (eqScene_fn x0 x0) ?_
 try simp (maxSteps:=9^9) only[go_sem]
 repeat refine And.intro (by first|omega|(constructor<;>omega)|kernel_rfl) ?_
 refine CallW.mk (toPlacement_fn x1 hle1) ?_
 try simp (maxSteps:=9^9) only[go_sem]
 repeat refine And.intro (by first|omega|(constructor<;>omega)|kernel_rfl) ?_
 refine CallW.mx (eqPlacement_fn x1 x1) ?_
 try simp (maxSteps:=9^9) only[go_sem]
 repeat refine And.intro (by first|omega|(constructor<;>omega)|kernel_rfl) ?_
 refine CallW.mk (toStepS_fn x2 hle2) ?_
 try simp (maxSteps:=9^9) only[go_sem]
 repeat refine And.intro (by first|omega|(constructor<;>omega)|kernel_rfl) ?_
 refine CallW.mx (eqStepS_fn x2 x2) ?_
 try simp (maxSteps:=9^9) only[go_sem]
 have hc0:Go.Proofs.YtffdhjnbppagjaaGreat.cnScene x0<=3145728:=by have:=Go.Proofs.YtffdhjnbppagjaaGreat.cnScene_le x0; omega
 repeat refine And.intro (by first|omega|(constructor<;>omega)|kernel_rfl) ?_
 refine CallW.m (markScene_fn x0 1 (by omega) (by omega)) ?_
 try simp (maxSteps:=9^9) only[go_sem]
 have hc1:Go.Proofs.YtffdhjnbppagjaaGreat.cnPlacement x1<=3145728:=by have:=Go.Proofs.YtffdhjnbppagjaaGreat.cnPlacement_le x1; omega
 repeat refine And.intro (by first|omega|(constructor<;>omega)|kernel_rfl) ?_
 refine CallW.m (markPlacement_fn x1 (1+(Go.Proofs.YtffdhjnbppagjaaGreat.cnScene x0:Nat)) (by omega) (by omega)) ?_
 try simp (maxSteps:=9^9) only[go_sem]
 have hc2:Go.Proofs.YtffdhjnbppagjaaGreat.cnStepS x2<=3145728:=by have:=Go.Proofs.YtffdhjnbppagjaaGreat.cnStepS_le x2; omega
 repeat refine And.intro (by first|omega|(constructor<;>omega)|kernel_rfl) ?_
 refine CallW.m (markStepS_fn x2 (1+(Go.Proofs.YtffdhjnbppagjaaGreat.cnScene x0:Nat)+(Go.Proofs.YtffdhjnbppagjaaGreat.cnPlacement x1:Nat)) (by omega) (by omega)) ?_
 try simp (maxSteps:=9^9) only[go_sem]
 have hkf:decide ((1:Int)+(Go.Proofs.YtffdhjnbppagjaaGreat.cnScene x0:Int)+(Go.Proofs.YtffdhjnbppagjaaGreat.cnPlacement x1:Int)+(Go.Proofs.YtffdhjnbppagjaaGreat.cnStepS x2:Int) < 0)=false:=decide_eq_false (by omega)
 try simp (maxSteps:=9^9) only[go_sem,hkf]
 repeat refine And.intro (by first|omega|(constructor<;>omega)|kernel_rfl) ?_
 refine CallW.mx (eqStepS_fn (shD x0 x1 x2) (shD x0 x1 x2)) ?_
 try simp (maxSteps:=9^9) only[go_sem]
 have hcg:=cn_sh x0 x1 x2 (by omega)
 repeat refine And.intro (by first|omega|(constructor<;>omega)|kernel_rfl) ?_
 refine CallW.m (markStepS_fn (shD x0 x1 x2) 1 (by omega) (by omega)) ?_
 try simp (maxSteps:=9^9) only[go_sem]
 repeat refine And.intro (by first|omega|(constructor<;>omega)|kernel_rfl) ?_
 refine CallW.mx (heldStepS_fn (shD x0 x1 x2) 1 (by omega) (by omega)) ?_
 try simp (maxSteps:=9^9) only[go_sem]
 repeat refine And.intro (by first|omega|(constructor<;>omega)|kernel_rfl) ?_
 refine CondW_dec (fun hlt=>absurd hlt (by omega)) (fun _=>?_)
 try simp (maxSteps:=9^9) only[go_sem]
 repeat refine And.intro (by first|omega|(constructor<;>omega)|kernel_rfl) ?_
 refine CallW.mk (toScene_fn x0 hle0) ?_
 try simp (maxSteps:=9^9) only[go_sem]
 repeat refine And.intro (by first|omega|(constructor<;>omega)|kernel_rfl) ?_
 refine CallW.mk (toPlacement_fn x1 hle1) ?_
 try simp (maxSteps:=9^9) only[go_sem]
 repeat refine And.intro (by first|omega|(constructor<;>omega)|kernel_rfl) ?_
 refine CallW.mk (toStepS_fn x2 hle2) ?_
 try simp (maxSteps:=9^9) only[go_sem]
 repeat refine And.intro (by first|omega|(constructor<;>omega)|kernel_rfl) ?_
 refine CallW.mx (ShortenI_fn x0 x1 x2 hz2 (by omega)) ?_
 try simp (maxSteps:=9^9) only[go_sem]
 repeat refine And.intro (by first|omega|(constructor<;>omega)|kernel_rfl) ?_
 refine CallW.mx (eqStepS_fn (shD x0 x1 x2) (shD x0 x1 x2)) ?_
 try simp (maxSteps:=9^9) only[go_sem]
 repeat refine And.intro (by first|omega|(constructor<;>omega)|kernel_rfl) ?_
 refine CallW.mx (heldStepS_fn (shD x0 x1 x2) 1 (by omega) (by omega)) ?_
 try simp (maxSteps:=9^9) only[go_sem]
 repeat refine And.intro (by first|omega|(constructor<;>omega)|kernel_rfl) ?_
 refine CondW_dec (fun hlt=>absurd hlt (by omega)) (fun _=>?_)
 try simp (maxSteps:=9^9) only[go_sem]
end Go.Proofs.YtffdhjnbppagjaaGreat.DW
namespace Go.Proofs.YtffdhjnbppagjaaGreat
open Go.RowKit DW
theorem law_FnExactShortenMotion (a0_0 a0_1 a0_2 a0_3 a0_4 a0_5 a0_6:Value) (x0:DScene) (a1_0 a1_1 a1_2 a1_3 a1_4 a1_5 a1_6:Value) (x1:DPlacement) (a2:Value) (x2:DStepS) (w:World) (hx0:Has RScene w [a0_0,a0_1,a0_2,a0_3,a0_4,a0_5,a0_6] x0) (hx1:Has RPlacement w [a1_0,a1_1,a1_2,a1_3,a1_4,a1_5,a1_6] x1) (hx2:Has RStepS w [a2] x2) :
  Calls Tryz.prog 8 #[.agg #[a0_0,a0_1,a0_2,a0_3,a0_4,a0_5,a0_6],.agg #[a1_0,a1_1,a1_2,a1_3,a1_4,a1_5,a1_6],a2] w (Post fun r w'=>r=.bool true/\Below w.heap.size w w') :=
 (DW.lawShortenMotion_fn x0 x1 x2).bool (vs:=[.agg #[a0_0,a0_1,a0_2,a0_3,a0_4,a0_5,a0_6],.agg #[a1_0,a1_1,a1_2,a1_3,a1_4,a1_5,a1_6],a2]) ⟨Arg.agg (t:=DW.tScene) (cs:=[a0_0,a0_1,a0_2,a0_3,a0_4,a0_5,a0_6]) rfl hx0,Arg.agg (t:=DW.tStep) (cs:=[a1_0,a1_1,a1_2,a1_3,a1_4,a1_5,a1_6]) rfl hx1,Arg.sl hx2,trivial⟩
end Go.Proofs.YtffdhjnbppagjaaGreat
