/-
  Texts of a proof, one behind another: Dw43, So0, So1, Cp1, Cp2, Dw44, Hv1, Hv2, Hv3, Dw45, Dw62, Dw151, Dw160, Dw161, Dw154, Rept, Dw163, Dw164, LwT, BtsV, LwS, Dw130, Dw131, Dw165, Dw80, Dw84, Dw27, Dw46, Hs1, Dw85, Dw49, Dw50, Dw51, Dw52, Dw53, Dw54, Dw86, Dw63, Dw140, Dw168, Dw166, Dw169, Dw172, Dw173.
-/
import Derived.Shelf.SlSortCmp.NoneTotal
import Derived.Lib.SlicesCompact
import Derived.Shelf.RegionOpenPlain
import Derived.WalkKit
import Derived.Deep.LoopGhost
import Derived.Deep.Draws
import Derived.Lib.Walk
import Derived.Sort.WalkB12
import Derived.Lib.SliceRun
import Derived.Shelf.Bits.Mul64
import Derived.Laws.CopyOwn
import Derived.Test.YtcbionahcldlnaaGreatKUp4
set_option linter.all false
set_option maxRecDepth 100000
namespace Go.Proofs.YtcbionahcldlnaaGreat.DW
open Go.RowKit
theorem l06Less_fn (a b:DV):Fn Tryz.prog 113 [⟨tVec,a⟩,⟨tVec,b⟩] false [⟨.bool,decide (ltV a b)⟩]:=by
 by_cases h1:a.1 < b.1
 ·have d1:=decide_eq_true h1
  rw [decide_eq_true (p:=ltV a b) (.inl h1)]
  refine fe Tryz.func113 Tryz.ntmps113 Tryz.results113 fun hwf=>?_
  try simp (maxSteps:=9^9) only[go_sem,d1]
 ·have d1:=decide_eq_false h1
  by_cases h2:a.1=b.1
  ·have d2:=decide_eq_true h2
   have e:decide (ltV a b)=decide (a.2 < b.2):=by
    by_cases h3:a.2 < b.2
    ·rw [decide_eq_true h3,decide_eq_true (p:=ltV a b) (.inr ⟨h2,h3⟩)]
    ·rw [decide_eq_false h3,decide_eq_false (p:=ltV a b) (fun h=>by unfold ltV at h; omega)]
   rw [e]
   refine fe Tryz.func113 Tryz.ntmps113 Tryz.results113 fun hwf=>?_
   try simp (maxSteps:=9^9) only[go_sem,d1,d2]
  ·have d2:=decide_eq_false h2
   rw [decide_eq_false (p:=ltV a b) (fun h=>by unfold ltV at h; omega)]
   refine fe Tryz.func113 Tryz.ntmps113 Tryz.results113 fun hwf=>?_
   try simp (maxSteps:=9^9) only[go_sem,d1,d2]
def bkD (l:List DV) (n:Nat):List DV:=l.reverse.take n
theorem bkD_step {l:List DV} {n:Nat} (h:n < l.length):bkD l (n+1)=bkD l n++[nth (t:=tVec) l (l.length - 1 - n)]:=by
 unfold bkD
 rw [List.take_add_one,List.getElem?_eq_getElem (by rw [List.length_reverse]; exact h),List.getElem_reverse,nth_lt (by omega)]
 rfl
theorem bkD_len {l:List DV} {n:Nat} (h:n<=l.length):(bkD l n).length=n:=by
 unfold bkD; rw [List.length_take,List.length_reverse]; omega
theorem bkD_all {l:List DV} {n:Nat} (h:l.length<=n):bkD l n=l.reverse:=by
 unfold bkD; rw [List.take_of_length_le (by rw [List.length_reverse]; exact h)]
theorem hullD_lt3 {l:List DV} (h:(srtD l).length < 3):hullD l=srtD l:=by
 unfold hullD
 split
 ·rfl
 ·match hs:srtD l,h with
  | [],_=>rfl
  | [a],_=>exact absurd (show (srtD l).length < 2 by rw [hs]; exact Nat.lt_succ_self _) (by assumption)
  | [a,b],_=>rfl
theorem chD_take (l:List DV):chD l=(chR l).reverse.take ((chR l).reverse.length - 1):=List.dropLast_eq_take
theorem chR_len (l:List DV):(chR l).length<=l.length:=by
 have:=chRi_len l l.length
 unfold chRi at this
 rwa [List.take_length] at this
theorem chR_pos (l:List DV) (h:0 < l.length):0 < (chR l).length:=by
 have:=chRi_step (l:=l) (i:=l.length - 1) (by omega)
 rw [show l.length - 1+1=l.length by omega] at this
 unfold chRi at this
 rw [List.take_length] at this
 rw [this]; simp
set_option maxHeartbeats 1000000 in
theorem specHull_fn (l:List DV) (hl:∀ v ∈ l,okV v=true) (hn:l.length<=64):Fn Tryz.prog 74 [⟨.slice tVec,l⟩] true [⟨.slice tVec,hullD l⟩]:=by
 have d0:=decide_eq_false (p:=(l.length:Int) > 64) (by omega)
 refine fe Tryz.func74 Tryz.ntmps74 Tryz.results74 fun hwf=>?_
 try simp (maxSteps:=9^9) only[go_sem,d0]
 refine LoopG.intro _ _ _ (fun i:Nat=>⟨[(3,.row 0 0),(17,.sl tVec l),(18,.sc (.int .i64 l.length)),(19,.sc (.int .i64 i))],[(0,.row 24 tVec 0 true (srtI l i))]⟩) (fun i=>i<=l.length) (fun i=>l.length - i) 0 ?_ (Nat.zero_le _) ?_
 ·exact WK
 ·rintro i hi
  try simp (maxSteps:=9^9) only[go_sem]
  refine CondW_dec (fun hA=>?_) (fun hA=>?_)
  ·have hlt:i < l.length:=by omega
   have hv:=hl _ (nth_mem hlt)
   have hst:=srtI_step hlt
   have hcl:=srtI_len l i
   have c1:=IsValidVec_fn (nth (t:=tVec) l i)
   rw [hv] at c1
   generalize hvv:nth (t:=tVec) l i=v at hv hst c1 ⊢
   generalize hss:srtI l i=s at hst hcl ⊢
   try simp (maxSteps:=9^9) only[go_sem,hvv]
   repeat refine AI ?_
   repeat refine AI ?_
   refine cw c1 ?_
   try simp (maxSteps:=9^9) only[go_sem]
   refine LoopG.intro _ _ _ (fun j:Nat=>⟨[(3,.row 0 0),(5,.ptr 1 0),(6,.sc (.int .i64 j)),(17,.sl tVec l),(18,.sc (.int .i64 l.length)),(19,.sc (.int .i64 i))],[(1,.box [.sc (.int .i64 v.1),.sc (.int .i64 v.2)]),(0,.row 24 tVec 0 true s)]⟩) (fun j=>j<=s.length/\∀ j',j' < j->ltV (nth (t:=tVec) s j') v) (fun j=>s.length - j) 0 ?_ ⟨Nat.zero_le _,fun j h=>absurd h (Nat.not_lt_zero _)⟩ ?_
   ·exact WK
   ·rintro j ⟨k1,k2⟩
    have hins:=insD_at (p:=v) (l:=s) (i:=j) k1 k2
    have e5:s.take j++v :: s.drop j=s.take j++[v]++s.drop j:=by rw [List.append_assoc]; rfl
    have hlm:(s.take j).length=j:=by rw [List.length_take]; omega
    have hlm2:(s.take j++[v]).length=j+1:=by rw [List.length_append,hlm]; rfl
    have hlm3:(s.drop j).length=s.length - j:=List.length_drop
    by_cases hj:j < s.length
    ·have d1:=decide_eq_true (p:=(j:Int) < (s.length:Int)) (by omega)
     have c2:=l06Less_fn (nth (t:=tVec) s j) v
     by_cases hlt2:ltV (nth (t:=tVec) s j) v
     ·rw [decide_eq_true hlt2] at c2
      try simp (maxSteps:=9^9) only[go_sem,d1]
      repeat refine AI ?_
      refine cw c2 ?_
      try simp (maxSteps:=9^9) only[go_sem]
      repeat refine AI ?_
      refine LoopK.mk (j+1) ?_ ⟨by omega,fun j' hj'=>?_⟩ (by omega)
      ·exact WK
      ·by_cases h:j' < j
       ·exact k2 j' h
       ·rw [show j'=j by omega]; exact hlt2
     ·rw [decide_eq_false hlt2] at c2
      have hins:=hins fun _=>hlt2
      by_cases he:nth (t:=tVec) s j=v
      ·have e3:(decide ((nth (t:=tVec) s j).1=v.1) && decide ((nth (t:=tVec) s j).2=v.2))=true:=by rw [he]; simp
       rw [if_pos ⟨hj,he⟩] at hins
       try simp (maxSteps:=9^9) only[go_sem,d1]
       repeat refine AI ?_
       refine cw c2 ?_
       try simp (maxSteps:=9^9) only[go_sem]
       repeat refine AI ?_
       try simp (maxSteps:=9^9) only[go_sem,d1,e3]
       repeat refine AI ?_
       refine LoopK.mk (i+1) ?_ (by omega) (by omega)
       rw [hst,hins]
       exact WK
      ·have e3:(decide ((nth (t:=tVec) s j).1=v.1) && decide ((nth (t:=tVec) s j).2=v.2))=false:=by
        by_cases q1:(nth (t:=tVec) s j).1=v.1
        ·by_cases q2:(nth (t:=tVec) s j).2=v.2
         ·exact absurd (Prod.ext q1 q2) he
         ·rw [decide_eq_false q2,Bool.and_false]
        ·rw [decide_eq_false q1,Bool.false_and]
       rw [if_neg (fun h=>he h.2)] at hins
       try simp (maxSteps:=9^9) only[go_sem,d1]
       repeat refine AI ?_
       refine cw c2 ?_
       try simp (maxSteps:=9^9) only[go_sem]
       repeat refine AI ?_
       try simp (maxSteps:=9^9) only[go_sem,d1,e3]
       repeat refine AI ?_
       refine SlcW.keep ?_
       try simp (maxSteps:=9^9) only[go_sem]
       repeat refine AI ?_
       refine SlcW.keep ?_
       try simp (maxSteps:=9^9) only[go_sem,List.take_length]
       repeat refine AI ?_
       refine LoopK.mk (i+1) ?_ (by omega) (by omega)
       rw [hst,hins,e5]
       refine Wk.mk [(0,2)] ?_
       try simp (maxSteps:=9^9) only[go_sem]
       try (and_intros<;>first|rfl|omega|exact ⟨_,rfl⟩)
       all_goals (first|exact ⟨by omega,rfl⟩|exact ⟨rfl,rfl⟩)
    ·have d1:=decide_eq_false (p:=(j:Int) < (s.length:Int)) (by omega)
     have hins:=hins fun h=>absurd h hj
     rw [if_neg (fun h=>hj h.1)] at hins
     try simp (maxSteps:=9^9) only[go_sem,d1]
     repeat refine AI ?_
     try simp (maxSteps:=9^9) only[go_sem,d1]
     repeat refine AI ?_
     refine SlcW.keep ?_
     try simp (maxSteps:=9^9) only[go_sem]
     repeat refine AI ?_
     refine SlcW.keep ?_
     try simp (maxSteps:=9^9) only[go_sem,List.take_length]
     repeat refine AI ?_
     refine LoopK.mk (i+1) ?_ (by omega) (by omega)
     rw [hst,hins,e5]
     refine Wk.mk [(0,2)] ?_
     try simp (maxSteps:=9^9) only[go_sem]
     try (and_intros<;>first|rfl|omega|exact ⟨_,rfl⟩)
     all_goals (first|exact ⟨by omega,rfl⟩|exact ⟨rfl,rfl⟩)
  ·have hii:i=l.length:=by omega
   subst hii
   rw [srtI_all]
   have hsm:∀ v ∈ srtD l,okV v=true:=fun v hv=>hl v (srtD_mem.1 hv)
   have hsl:=srtD_len l
   by_cases h3:(srtD l).length < 3
   ·rw [hullD_lt3 h3]
    generalize srtD l=s at h3 hsl ⊢
    have d3:=decide_eq_true (p:=(s.length:Int) < 3) (by omega)
    try simp (maxSteps:=9^9) only[go_sem,d3]
   ·have hh:hullD l=chD (srtD l)++chD (srtD l).reverse:=by unfold hullD; rw [if_neg (by omega)]
    rw [hh,chD_take,chD_take]
    generalize srtD l=s at h3 hsl hsm ⊢
    have d3:=decide_eq_false (p:=(s.length:Int) < 3) (by omega)
    have hrl:s.reverse.length=s.length:=List.length_reverse
    have c3:=l06Chain_fn s hsm (by omega) (by omega)
    have c4:=l06Chain_fn s.reverse (fun v hv=>hsm v (List.mem_reverse.1 hv)) (by omega) (by omega)
    try simp (maxSteps:=9^9) only[go_sem,d3]
    repeat refine AI ?_
    refine LoopG.intro _ _ _ (fun n:Nat=>⟨[(3,.row 0 0),(8,.row 1 0),(9,.sc (.int .i64 ((s.length:Int) - 1 - n)))],[(1,.row 24 tVec 0 true (bkD s n)),(0,.row 24 tVec 0 true s)]⟩) (fun n=>n<=s.length) (fun n=>s.length - n) 0 ?_ (Nat.zero_le _) ?_
    ·exact WK
    ·rintro n hn2
     try simp (maxSteps:=9^9) only[go_sem]
     refine CondW_dec (fun hB=>?_) (fun hB=>?_)
     ·have hbl:=bkD_len (l:=s) (n:=n) (by omega)
      have hbs:=bkD_step (l:=s) (n:=n) (by omega)
      have ei:((s.length:Int) - 1 - n).toNat=s.length - 1 - n:=by omega
      try simp (maxSteps:=9^9) only[go_sem]
      repeat refine AI ?_
      rw [ei]
      try simp (maxSteps:=9^9) only[go_sem,hbl]
      repeat refine AI ?_
      refine LoopK.mk (n+1) ?_ (by omega) (by omega)
      rw [hbs]
      exact WK
     ·rw [bkD_all (by omega)]
      have q1:=chR_len s
      have q2:=chR_pos s (by omega)
      have q3:=chR_len s.reverse
      have q4:=chR_pos s.reverse (by omega)
      have q5:(chR s).reverse.length=(chR s).length:=List.length_reverse
      have q6:(chR s.reverse).reverse.length=(chR s.reverse).length:=List.length_reverse
      generalize (chR s).reverse=lo at c3 q5 ⊢
      generalize (chR s.reverse).reverse=hi at c4 q6 ⊢
      have e7:((lo.length:Int) - 1).toNat=lo.length - 1:=by omega
      have e8:((hi.length:Int) - 1).toNat=hi.length - 1:=by omega
      have q7:(lo.take (lo.length - 1)).length=lo.length - 1:=by rw [List.length_take]; omega
      have q8:(hi.take (hi.length - 1)).length=hi.length - 1:=by rw [List.length_take]; omega
      try simp (maxSteps:=9^9) only[go_sem]
      repeat refine AI ?_
      refine cw c3 ?_
      try simp (maxSteps:=9^9) only[go_sem]
      repeat refine AI ?_
      refine cw c4 ?_
      try simp (maxSteps:=9^9) only[go_sem]
      repeat refine AI ?_
      refine SlcW.keep ?_
      try simp (maxSteps:=9^9) only[go_sem]
      rw [e7]
      try simp (maxSteps:=9^9) only[go_sem,q7]
      repeat refine AI ?_
      refine SlcW.keep ?_
      try simp (maxSteps:=9^9) only[go_sem]
      rw [e8]
      try simp (maxSteps:=9^9) only[go_sem,q7,q8]
      repeat refine AI ?_
      try simp (maxSteps:=9^9) only[go_sem,q7,q8]
      omega
end Go.Proofs.YtcbionahcldlnaaGreat.DW

namespace Go.Proofs.YtcbionahcldlnaaGreat.DW
open Go.RowKit Go.Shelf
def sortL_ren:Go.Shelf.Ren:=⟨fun|6=>234|14=>253|15=>108|20=>258|21=>259|22=>260|23=>261|24=>262|25=>263|26=>264|27=>265|28=>157|29=>158|46=>268|47=>190|48=>191|49=>269|50=>270|57=>272|n=>n,fun|0=>0|3=>3|4=>4|5=>5|9=>9|22=>25|23=>265|24=>24|25=>266|39=>114|45=>196|46=>197|47=>280|50=>202|53=>205|55=>207|66=>231|70=>235|76=>261|77=>193|n=>n,fun n=>n⟩
theorem sortL:SlLaysF0.n6 Tryz.prog sortL_ren where
 mixed:=by kernel_rfl
 f6:=⟨"slices.SortFunc[[]loop.example/g00811/impl.Vec,loop.example/g00811/impl.Vec]",by decide,Tryz.func234.trans (congrArg some (by kernel_rfl))⟩
 f14:=⟨"slices.pdqsortCmpFunc[loop.example/g00811/impl.Vec]",by decide,Tryz.func253.trans (congrArg some (by kernel_rfl))⟩
 f15:=Tryz.func108.trans (congrArg some (by kernel_rfl))
 f20:=⟨"slices.insertionSortCmpFunc[loop.example/g00811/impl.Vec]",by decide,Tryz.func258.trans (congrArg some (by kernel_rfl))⟩
 f21:=⟨"slices.heapSortCmpFunc[loop.example/g00811/impl.Vec]",by decide,Tryz.func259.trans (congrArg some (by kernel_rfl))⟩
 f22:=⟨"slices.breakPatternsCmpFunc[loop.example/g00811/impl.Vec]",by decide,Tryz.func260.trans (congrArg some (by kernel_rfl))⟩
 f23:=⟨"slices.choosePivotCmpFunc[loop.example/g00811/impl.Vec]",by decide,Tryz.func261.trans (congrArg some (by kernel_rfl))⟩
 f24:=⟨"slices.reverseRangeCmpFunc[loop.example/g00811/impl.Vec]",by decide,Tryz.func262.trans (congrArg some (by kernel_rfl))⟩
 f25:=⟨"slices.partialInsertionSortCmpFunc[loop.example/g00811/impl.Vec]",by decide,Tryz.func263.trans (congrArg some (by kernel_rfl))⟩
 f26:=⟨"slices.partitionEqualCmpFunc[loop.example/g00811/impl.Vec]",by decide,Tryz.func264.trans (congrArg some (by kernel_rfl))⟩
 f27:=⟨"slices.partitionCmpFunc[loop.example/g00811/impl.Vec]",by decide,Tryz.func265.trans (congrArg some (by kernel_rfl))⟩
 f28:=Tryz.func157.trans (congrArg some (by kernel_rfl))
 f29:=Tryz.func158.trans (congrArg some (by kernel_rfl))
 f46:=⟨"slices.siftDownCmpFunc[loop.example/g00811/impl.Vec]",by decide,Tryz.func268.trans (congrArg some (by kernel_rfl))⟩
 f47:=Tryz.func190.trans (congrArg some (by kernel_rfl))
 f48:=Tryz.func191.trans (congrArg some (by kernel_rfl))
 f49:=⟨"slices.medianAdjacentCmpFunc[loop.example/g00811/impl.Vec]",by decide,Tryz.func269.trans (congrArg some (by kernel_rfl))⟩
 f50:=⟨"slices.medianCmpFunc[loop.example/g00811/impl.Vec]",by decide,Tryz.func270.trans (congrArg some (by kernel_rfl))⟩
 f57:=⟨"slices.order2CmpFunc[loop.example/g00811/impl.Vec]",by decide,Tryz.func272.trans (congrArg some (by kernel_rfl))⟩
 t0:=Tryz.underlying0
 a0:=Tryz.isAgg0
 z0:=Tryz.sizeOf0
 v0:=Tryz.zeroValue0
 t3:=Tryz.underlying3
 a3:=Tryz.isAgg3
 z3:=Tryz.sizeOf3
 v3:=Tryz.zeroValue3
 t4:=Tryz.underlying4
 a4:=Tryz.isAgg4
 z4:=Tryz.sizeOf4
 v4:=Tryz.zeroValue4
 t5:=Tryz.underlying5
 a5:=Tryz.isAgg5
 z5:=Tryz.sizeOf5
 v5:=Tryz.zeroValue5
 t9:=Tryz.underlying9
 a9:=Tryz.isAgg9
 z9:=Tryz.sizeOf9
 v9:=Tryz.zeroValue9
 t22:=Tryz.underlying25
 a22:=Tryz.isAgg25
 z22:=Tryz.sizeOf25
 v22:=Tryz.zeroValue25
 t25:=Tryz.underlying266
 a25:=Tryz.isAgg266
 z25:=Tryz.sizeOf266
 v25:=Tryz.zeroValue266
 t39:=Tryz.underlying114
 a39:=Tryz.isAgg114
 z39:=Tryz.sizeOf114
 v39:=Tryz.zeroValue114
 t45:=Tryz.underlying196
 a45:=Tryz.isAgg196
 z45:=Tryz.sizeOf196
 v45:=Tryz.zeroValue196
 t46:=Tryz.underlying197
 a46:=Tryz.isAgg197
 z46:=Tryz.sizeOf197
 v46:=Tryz.zeroValue197
 t50:=Tryz.underlying202
 a50:=Tryz.isAgg202
 z50:=Tryz.sizeOf202
 v50:=Tryz.zeroValue202
 t53:=Tryz.underlying205
 a53:=Tryz.isAgg205
 z53:=Tryz.sizeOf205
 v53:=Tryz.zeroValue205
 t55:=Tryz.underlying207
 a55:=Tryz.isAgg207
 z55:=Tryz.sizeOf207
 v55:=Tryz.zeroValue207
 t66:=Tryz.underlying231
 a66:=Tryz.isAgg231
 z66:=Tryz.sizeOf231
 v66:=Tryz.zeroValue231
 t70:=Tryz.underlying235
 a70:=Tryz.isAgg235
 z70:=Tryz.sizeOf235
 v70:=Tryz.zeroValue235
 t76:=Tryz.underlying261
 a76:=Tryz.isAgg261
 z76:=Tryz.sizeOf261
 v76:=Tryz.zeroValue261
 t77:=Tryz.underlying193
 a77:=Tryz.isAgg193
 z77:=Tryz.sizeOf193
 v77:=Tryz.zeroValue193
def revL_ren:Go.Shelf.Ren:=⟨fun|35=>238|n=>n,fun|0=>0|3=>3|4=>4|22=>25|23=>24|n=>n,fun n=>n⟩
theorem revL:SlLaysE0.n35 Tryz.prog revL_ren where
 mixed:=by kernel_rfl
 f35:=⟨"slices.Reverse[[]loop.example/g00811/impl.Vec,loop.example/g00811/impl.Vec]",by decide,Tryz.func238.trans (congrArg some (by kernel_rfl))⟩
 t0:=Tryz.underlying0
 a0:=Tryz.isAgg0
 z0:=Tryz.sizeOf0
 v0:=Tryz.zeroValue0
 t3:=Tryz.underlying3
 a3:=Tryz.isAgg3
 z3:=Tryz.sizeOf3
 v3:=Tryz.zeroValue3
 t4:=Tryz.underlying4
 a4:=Tryz.isAgg4
 z4:=Tryz.sizeOf4
 v4:=Tryz.zeroValue4
 t22:=Tryz.underlying25
 a22:=Tryz.isAgg25
 z22:=Tryz.sizeOf25
 v22:=Tryz.zeroValue25
end Go.Proofs.YtcbionahcldlnaaGreat.DW

namespace Go.Proofs.YtcbionahcldlnaaGreat.DW
open Go.RowKit Go.Sort Go.Shelf
abbrev OV:={ v:DV // okV v=true }
instance:Inhabited OV:=⟨⟨(0,0),by decide⟩⟩
def encO (x:OV):List Value:=encV x.1
def cfO (x y:OV):Int:=cfV x.1 y.1
set_option maxHeartbeats 1000000 in
theorem compareVecs_any (a b:DV) (ha:okV a=true) (hb:okV b=true) (W:World):Calls Tryz.prog 235 #[.agg #[.int .i64 a.1,.int .i64 a.2],.agg #[.int .i64 b.1,.int .i64 b.2]] W fun e w'=>e=.returned (.int .i64 (cfV a b))/\∃ q os',w'=grow (W.drewN q) os':=by
 obtain ⟨a1,a2⟩:=a
 obtain ⟨b1,b2⟩:=b
 obtain ⟨p1,p2,p3,p4⟩:=okV_b ha
 obtain ⟨q1,q2,q3,q4⟩:=okV_b hb
 simp only at p1 p2 p3 p4 q1 q2 q3 q4
 clear ha hb
 unfold cfV
 by_cases h:a1=b1
 ·subst h
  simp only [if_true]
  go_enter Tryz.func235,Tryz.ntmps235
  go_wp2
  go_ret
  exact ⟨rfl,0,_,by rw [alloc_eq_grow,alloc_eq_grow,grow_grow]; rfl⟩
 ·simp only [h,if_false]
  go_enter Tryz.func235,Tryz.ntmps235
  go_wp2
  go_ret
  exact ⟨rfl,0,_,by rw [alloc_eq_grow,alloc_eq_grow,grow_grow]; rfl⟩
theorem cmpLays (blk off size:Nat) (w:World):CmpLays Tryz.prog 235 #[] encO 2 cfO blk off size w :=
 fun _ _ _ _ x y=>compareVecs_any x.1 y.1 x.2 y.2 _
theorem flat_val (d:List OV):flatK encO 2 d.toArray=flatK encV 2 (d.map Subtype.val).toArray:=by
 refine ext_get! (by simp) fun t ht=>?_
 have ht':t < d.length * 2:=by simpa using ht
 rw [get_flatK _ _ _ t (by simpa using ht'),get_flatK _ _ _ t (by simpa using ht'),getElem!_pos d.toArray (t / 2) (by simp; omega),getElem!_pos (d.map Subtype.val).toArray (t / 2) (by simp; omega),List.getElem_toArray,List.getElem_toArray,List.getElem_map]
 rfl
theorem swoO:SWO (ltOf cfO) where
 irrefl x:=by
  have:=cfV_lt x.1 x.1
  show decide (cfV x.1 x.1 < 0)=false
  rw [decide_eq_false_iff_not,this]
  exact ltV_irrefl _
 trans x y z h1 h2:=by
  have h1:=(cfV_lt x.1 y.1).1 (of_decide_eq_true h1)
  have h2:=(cfV_lt y.1 z.1).1 (of_decide_eq_true h2)
  exact decide_eq_true ((cfV_lt x.1 z.1).2 (ltV_trans h1 h2))
 ntrans x y z h1 h2:=by
  have h1:=fun h=>of_decide_eq_false h1 ((cfV_lt x.1 y.1).2 h)
  have h2:=fun h=>of_decide_eq_false h2 ((cfV_lt y.1 z.1).2 h)
  refine decide_eq_false fun h=>?_
  have h:=(cfV_lt x.1 z.1).1 h
  rcases ltV_tri x.1 y.1 with k|k|k
  ·exact h1 k
  ·exact h2 (k ▸ h)
  ·exact h2 (ltV_trans k h)
theorem totO (x y:OV) (h1:(ltOf cfO) x y=false) (h2:(ltOf cfO) y x=false):x=y:=by
 have h1:=fun h=>of_decide_eq_false h1 ((cfV_lt x.1 y.1).2 h)
 have h2:=fun h=>of_decide_eq_false h2 ((cfV_lt y.1 x.1).2 h)
 rcases ltV_tri x.1 y.1 with k|k|k
 ·exact (h1 k).elim
 ·exact Subtype.ext k
 ·exact (h2 k).elim
theorem exO:∀ l:List DV,(∀ v ∈ l,okV v=true)->∃ d:List OV,d.map Subtype.val=l
 | [],_=>⟨[],rfl⟩
 | v :: l,h=>by
  obtain ⟨d,hd⟩:=exO l fun x hx=>h x (List.mem_cons_of_mem _ hx)
  exact ⟨⟨v,h v List.mem_cons_self⟩ :: d,by rw [List.map_cons,hd]⟩
theorem sort_fn (l:List DV) (hl:∀ v ∈ l,okV v=true) (h0:0 < l.length) (hn:l.length<=1048576):FnR Tryz.prog 234 [.fn 235] 24 tVec l (l.mergeSort leB) false:=by
 obtain ⟨d,rfl⟩:=exO l hl
 refine FnR.of (enters_of Tryz.func234 (by kernel_rfl) rfl) h0 false fun hI w g cap hg hc hcm hH=>?_
 have hH':HoldsK encO 2 w g 0 d.toArray:=by unfold HoldsK; rw [flat_val]; exact hH
 have hdl:d.toArray.size=(d.map Subtype.val).length:=by simp
 have eg:∀ args w,(callFunc 235 args).run Tryz.prog w=.ok (.enter 235 args) w:=enters_of Tryz.func235 (by kernel_rfl) rfl
 have hcon:=AnyQ.slices_SortFunc_total sortL 2 Tryz.isAgg24 Tryz.sizeOf24 encO (fun _=>rfl) (fun x v hv=>by simp [encO,encV] at hv; rcases hv with rfl|rfl<;>rfl) cfO swoO 235 #[] g 0 cap d.toArray w eg (cmpLays g 0 _ w) hH' hg (by rw [hdl]; omega) totO
 rw [hdl] at hcon
 have hms:((d.mergeSort fun x y=>!(ltOf cfO) y x).map Subtype.val)=(d.map Subtype.val).mergeSort leB:=List.map_mergeSort fun a _ b _=>rfl
 refine Calls.mono hcon ?_
 rintro e w' ⟨rfl,n,os,rfl⟩
 refine ⟨(d.map Subtype.val).mergeSort leB,n,os,rfl,fun _=>List.length_mergeSort _,List.length_mergeSort _,fun x hx=>.inl ((List.mergeSort_perm _ _).mem_iff.1 hx),(List.take_length ..).symm,Nat.le_refl _,?_⟩
 unfold sortWorldK putRowK
 rw [<-hms,<-flat_val]
theorem reverse_fn (l:List DV) (h0:0 < l.length) (hn:l.length<=1048576):FnR Tryz.prog 238 [] 24 tVec l l.reverse false:=by
 refine FnR.of (enters_of Tryz.func238 (by kernel_rfl) rfl) h0 false fun hI w g cap hg hc hcm hH=>?_
 have hcon:=AnyQ.slices_Reverse revL 2 Tryz.isAgg24 Tryz.sizeOf24 encV (fun _=>rfl) (fun x v hv=>by simp [encV] at hv; rcases hv with rfl|rfl<;>rfl) g 0 cap l.toArray w hH (by simp; omega)
 have hdl:l.toArray.size=l.length:=by simp
 rw [hdl] at hcon
 refine Calls.mono hcon ?_
 rintro e w' ⟨rfl,n,rfl⟩
 refine ⟨l.reverse,n,#[],rfl,fun _=>List.length_reverse,List.length_reverse,fun x hx=>.inl (List.mem_reverse.1 hx),(List.take_length ..).symm,Nat.le_refl _,?_⟩
 unfold sortWorldK
 rw [grow_empty,List.reverse_toArray]
end Go.Proofs.YtcbionahcldlnaaGreat.DW

namespace Go.Proofs.YtcbionahcldlnaaGreat.DW
open Go.RowKit Go.Sort Go.Lib
theorem cmpD_snoc (y x:DV):∀ l:List DV,cmpD (l++[y,x])=cmpD (l++[y])++(if y=x then [] else [x])
 | []=>by
  show (if y=x then cmpD [x] else y :: cmpD [x])=[y]++_
  by_cases h:y=x
  ·rw [if_pos h,if_pos h,h]; rfl
  ·rw [if_neg h,if_neg h]; rfl
 | [a]=>by
  show (if a=y then cmpD [y,x] else a :: cmpD [y,x])=(if a=y then cmpD [y] else a :: cmpD [y])++_
  have ih:=cmpD_snoc y x []
  simp only [List.nil_append] at ih
  by_cases h:a=y
  ·rw [if_pos h,if_pos h,ih]
  ·rw [if_neg h,if_neg h,ih]; rfl
 | a :: b :: l=>by
  show (if a=b then cmpD (b :: (l++[y,x])) else a :: cmpD (b :: (l++[y,x])))=(if a=b then cmpD (b :: (l++[y])) else a :: cmpD (b :: (l++[y])))++_
  have ih:=cmpD_snoc y x (b :: l)
  simp only [List.cons_append] at ih
  by_cases h:a=b
  ·rw [if_pos h,if_pos h,ih]
  ·rw [if_neg h,if_neg h,ih]; rfl
theorem cpt_take (l:List DV):∀ m,m<=l.length->compactUpTo l.toArray m=cmpD (l.take m)
 | 0,_=>rfl
 | 1,h=>by
  rw [compactUpTo_succ,keeps_lt_one _ 0 (by decide),if_pos rfl]
  have e:l.take 1=[l[0]'(by omega)]:=by rw [List.take_add_one,List.getElem?_eq_getElem (by omega)]; rfl
  rw [e,getElem!_pos l.toArray 0 (by simp; omega)]
  rfl
 | m+2,h=>by
  have ih:=cpt_take l (m+1) (by omega)
  have e1:l.take (m+1)=l.take m++[l[m]'(by omega)]:=by rw [List.take_add_one,List.getElem?_eq_getElem (by omega)]; rfl
  have e2:l.take (m+2)=l.take m++[l[m]'(by omega),l[m+1]'(by omega)]:=by
   rw [List.take_add_one,List.getElem?_eq_getElem (by omega),e1,List.append_assoc]; rfl
  rw [compactUpTo_succ,ih,e2,cmpD_snoc,e1]
  have g1:l.toArray[m+1]! = l[m+1]'(by omega):=by rw [getElem!_pos l.toArray (m+1) (by simp; omega)]; rfl
  have g0:l.toArray[m+1 - 1]! = l[m]'(by omega):=by rw [Nat.add_sub_cancel,getElem!_pos l.toArray m (by simp; omega)]; rfl
  by_cases h2:l[m]'(by omega)=l[m+1]'(by omega)
  ·rw [keeps_neg (by omega) (by rw [g1,g0,h2]),if_pos h2]; rfl
  ·rw [keeps_pos (by rw [g1,g0]; exact fun h=>h2 h.symm),if_neg h2,if_pos rfl,g1]
theorem cpt_all (l:List DV):compactUpTo l.toArray l.length=cmpD l:=by
 rw [cpt_take l _ (Nat.le_refl _),List.take_length]
theorem setMany_one (d:Array DV) {i:Nat} (hi:i < d.size) (x:DV):setMany (flatK encV 2 d) (i * 2) (encV x)=flatK encV 2 (d.setIfInBounds i x):=by
 refine ext_get! (by simp) fun t ht=>?_
 have ht':t < d.size * 2:=by simpa using ht
 rw [get_setMany _ _ _ t (by simpa using ht'),get_flatK _ _ _ t ht',get_flatK _ _ _ t (by simpa using ht')]
 show (if i * 2<=t/\t < i * 2+2 then _ else _)=_
 by_cases h:t / 2=i
 ·rw [if_pos ⟨by omega,by omega⟩]
  subst h
  rw [getElem!_set_same d _ x hi,show t - t / 2 * 2=t % 2 by omega]
 ·rw [if_neg (by omega),getElem!_set_other d i _ x h]
theorem setMany_zero (d:Array DV) {k:Nat} (hk:k<=d.size) (r:List DV) (hr:r.length=k) (hlow:∀ j,j < k->r[j]? = some d[j]!) :
  setMany (flatK encV 2 d) (k * 2) (List.replicate ((d.size - k) * 2) (.int .i64 0))=flatK encV 2 (r++List.replicate (d.size - k) (0,0)).toArray:=by
 have hsz:(r++List.replicate (d.size - k) ((0:Int),(0:Int))).toArray.size=d.size:=by simp [hr]; omega
 refine ext_get! (by rw [size_setMany,size_flatK,size_flatK,hsz]) fun t ht=>?_
 have ht':t < d.size * 2:=by simpa using ht
 rw [get_setMany _ _ _ t (by simpa using ht'),get_flatK _ _ _ t ht',get_flatK _ _ _ t (by rw [hsz]; exact ht'),List.length_replicate]
 by_cases h:t / 2 < k
 ·rw [if_neg (by omega)]
  have h1:=hlow _ h
  have h2:(r++List.replicate (d.size - k) ((0:Int),(0:Int))).toArray[t / 2]! = d[t / 2]!:=by
   rw [getElem!_pos _ _ (by rw [hsz]; omega)]
   rw [List.getElem_toArray,List.getElem_append_left (by omega)]
   rw [List.getElem?_eq_getElem (by omega)] at h1
   injection h1
  rw [h2]
 ·rw [if_pos ⟨by omega,by omega⟩]
  have h2:(r++List.replicate (d.size - k) ((0:Int),(0:Int))).toArray[t / 2]! = (0,0):=by
   rw [getElem!_pos _ _ (by rw [hsz]; omega)]
   rw [List.getElem_toArray,List.getElem_append_right (by omega),List.getElem_replicate]
  rw [h2,getElem!_pos _ _ (by simp; omega),List.getElem_replicate]
  have h3:t % 2=0\/t % 2=1:=by omega
  rcases h3 with h3|h3<;>rw [h3]<;>rfl
end Go.Proofs.YtcbionahcldlnaaGreat.DW

namespace Go.Proofs.YtcbionahcldlnaaGreat.DW
open Go.RowKit Go.Sort Go.Lib
theorem vecT:vecTy Tryz.prog 24=true:=by kernel_rfl
theorem run_clear_vec (w:World) (ty:TypeId) (b o n c:Nat) (hn:0 < n)
  (hc:∀ j,j < n * 2->(w.cell? ⟨b,o+j,none⟩).isSome=true) (hf:∀ j,j < n * 2->w.frozen? ⟨b,o+j,none⟩=false) :
  (Builtin.clear_ #[25] ty #[.slice (some ⟨b,o,none⟩) n c]).run Tryz.prog w=.ok (.tuple #[]) (w.setCells b o (List.replicate (n * 2) (.int .i64 0))):=by
 have hzc:(Builtin.zeroCells (Value.agg #[.int .i64 0,.int .i64 0]).cells n).toList=List.replicate (n * 2) (.int .i64 0):=by
  apply List.ext_getElem
  ·simp [Builtin.zeroCells,Value.cells]
  ·intro i h1 h2
   simp only [Builtin.zeroCells,Value.cells,Array.toList_map,Array.toList_range,List.getElem_map,List.getElem_range,List.getElem_replicate]
   have:i % 2=0\/i % 2=1:=by omega
   show (#[Value.int .i64 0,Value.int .i64 0])[i % 2]! = _
   rcases this with h|h<;>rw [h]<;>rfl
 have hst:=run_storeCells_cells (P:=Tryz.prog) b o (List.replicate (n * 2) (.int .i64 0)) 0 w (by simpa using hc) (by simpa using hf) (by intro v hv'; rw [List.eq_of_mem_replicate hv']; rfl)
 simp only [Nat.add_zero] at hst
 obtain ⟨m,rfl⟩:∃ m,n=m+1:=⟨n - 1,by omega⟩
 have hz:=Tryz.zeroValue24
 have hu:=Tryz.underlying25
 simp [Builtin.clear_,run_underlying hu,hz,hzc,hst]
theorem store_world_v {w wr:World} {n blk off:Nat} {dk:Array DV} {i:Nat} (hi:i < dk.size) (hwr:wr=putRowK encV 2 (Sort.ahead w n) blk off dk) (a b:Int) :
  ((wr.setCell ⟨blk,off+i * 2,none⟩ (.int .i64 a)).setCell ⟨blk,off+i * 2+1,none⟩ (.int .i64 b)).drew=putRowK encV 2 (Sort.ahead w (n+1)) blk off (dk.setIfInBounds i (a,b)):=by
 subst hwr
 have h:=setCells_putRow (Sort.ahead w n) blk off (encV (a,b)) (i * 2) (flatK encV 2 dk) (by rw [size_flatK]; show i * 2+2<=_; omega)
 rw [setMany_one dk hi (a,b)] at h
 have h2:((putRowK encV 2 (Sort.ahead w n) blk off dk).setCell ⟨blk,off+i * 2,none⟩ (.int .i64 a)).setCell ⟨blk,off+i * 2+1,none⟩ (.int .i64 b)=putRow id (Sort.ahead w n) blk off (flatK encV 2 (dk.setIfInBounds i (a,b))):=h
 rw [h2,putRow_drew,ahead_drew]
 rfl
set_option maxHeartbeats 4000000 in
theorem compact_any (blk off cap:Nat) (d:Array DV) (w:World) (hH:HoldsK encV 2 w blk off d) (hsz:d.size<=9223372036854775807) (hcap:d.size<=cap) :
  Calls Tryz.prog 236 #[.slice (some ⟨blk,off,none⟩) d.size cap] w fun e w'=>e=.returned (.slice (some ⟨blk,off,none⟩) (compactUpTo d d.size).length cap)/\∃ q,w'=putRowK encV 2 (Sort.ahead w q) blk off (compactUpTo d d.size++List.replicate (d.size - (compactUpTo d d.size).length) (0,0)).toArray:=by
 have heq':∀ (a b c d:Int) (w:World),Sem.run Tryz.prog (binOp .eql 24 (.agg #[.int .i64 a,.int .i64 b]) (.agg #[.int .i64 c,.int .i64 d])) w=.ok (.bool (decide (a=c) && decide (b=d))) w:=fun a b c d w=>by rw [run_eql_struct,vec_eq vecT]; rfl
 have hne':∀ (a b c d:Int) (w:World),Sem.run Tryz.prog (binOp .neq 24 (.agg #[.int .i64 a,.int .i64 b]) (.agg #[.int .i64 c,.int .i64 d])) w=.ok (.bool (!(decide (a=c) && decide (b=d)))) w:=fun a b c d w=>by rw [run_neq_struct,vec_eq vecT]; rfl
 have hgd':∀ (op:BinOp) (x y:Operand) (a b c d:Int) (w:World),Sem.run Tryz.prog (eqGuard op 24 x y (.agg #[.int .i64 a,.int .i64 b]) (.agg #[.int .i64 c,.int .i64 d])) w=.ok () w:=fun op x y a b c d w=>run_eqGuard_agg w op _ x y _ _ (vecTy_g vecT)
 have same:∀ q,(∀ j,j < d.size->keeps d j=true)->(compactUpTo d d.size).length=d.size/\w.drewN q=putRowK encV 2 (Sort.ahead w q) blk off (compactUpTo d d.size++List.replicate (d.size - (compactUpTo d d.size).length) (0,0)).toArray:=by
  intro q hall
  have e:compactUpTo d d.size=d.toList:=by rw [compactUpTo_all d _ hall,range_map_get]
  rw [e]
  refine ⟨by simp,?_⟩
  simp only [Array.length_toList,Nat.sub_self,List.replicate_zero,List.append_nil,Array.toArray_toList]
  exact (putRowK_self encV 2 (Sort.ahead w q) blk off d (holdsK_ahead encV 2 w q blk off d hH)).symm
 have HS:Aside (∀ q,(∀ j,j < d.size->keeps d j=true)->(compactUpTo d d.size).length=d.size/\w.drewN q=putRowK encV 2 (Sort.ahead w q) blk off (compactUpTo d d.size++List.replicate (d.size - (compactUpTo d d.size).length) (0,0)).toArray):=same
 clear same
 have mixed:Tryz.prog.follows .mixedOrders=true:=mixes
 have encat:∀ x:DV,(encV x)[0]! = .int .i64 x.1/\(encV x)[1]! = .int .i64 x.2:=fun x=>⟨rfl,rfl⟩
 by_cases h2:d.size < 2
 ·have HH:Aside (HoldsK encV 2 w blk off d):=hH
  clear hH
  go_enter Tryz.func236,Tryz.ntmps236
  go_wp2
  go_ret
  obtain ⟨e1,e2⟩:=HS.out 0 (fun j hj=>keeps_lt_one d j (by omega))
  exact ⟨by rw [e1]; rfl,0,e2⟩
 ·go_enter Tryz.func236,Tryz.ntmps236
  go_wp2
  go_loopg [3] d.size (fun g s3 wr=>∃ k q:Nat,1<=k/\k<=d.size/\d.size - k<=g/\s3=.int .i64 k/\wr=w.drewN q/\∀ j,j < k->keeps d j=true)
  case atStart=>exact ⟨1,0,Nat.le_refl _,by omega,by omega,rfl,rfl,keeps_lt_one d⟩
  case round =>
   obtain ⟨k,q,hk1,hk,hg,rfl,rfl,hall⟩:=hrel
   by_cases hlt:k < d.size
   ·obtain ⟨c1,f1⟩:=hH.cell hlt (c:=0) (by decide)
    obtain ⟨c1',f1'⟩:=hH.cell hlt (c:=1) (by decide)
    obtain ⟨c0,f0⟩:=hH.cell (i:=k - 1) (by omega) (c:=0) (by decide)
    obtain ⟨c0',f0'⟩:=hH.cell (i:=k - 1) (by omega) (c:=1) (by decide)
    rw [(encat _).1] at c1 c0
    rw [(encat _).2] at c1' c0'
    rw [Nat.add_zero] at c1 c0 f1 f0
    have A:Aside (∀ j,j < k->keeps d j=true):=hall
    have HH:Aside (HoldsK encV 2 w blk off d):=hH
    clear hall hH
    generalize hx:d[k]! = x at c1 c1'
    generalize hy:d[k - 1]! = y at c0 c0'
    have B:Aside (d[k]! = x/\d[k - 1]! = y):=⟨hx,hy⟩
    clear hx hy
    obtain ⟨x1,x2⟩:=x
    obtain ⟨y1,y2⟩:=y
    simp only at c1 c1' c0 c0'
    have hbe:(decide (x1=y1) && decide (x2=y2))=decide ((x1,x2)=(y1,y2)):=by
     by_cases e1:x1=y1<;>by_cases e2:x2=y2<;>simp [e1,e2]
    by_cases hdup:((x1,x2):DV)=(y1,y2)
    ·injection hdup with h1 h2'
     subst h1 h2'
     go_wp2_with fail
     go_region_o
     go_wp2
     clear c0 c1 c0' c1' f0 f1 f0' f1'
     go_loopg [3,5] d.size (fun g s3 s5 wr=>∃ (kk k2 q2:Nat) (dk:Array DV),s3=.int .i64 kk/\s5=.int .i64 k2/\1<=k2/\k+k2<=d.size/\d.size - (k+k2)<=g/\wr=putRowK encV 2 (Sort.ahead w q2) blk off dk/\CompInv d (k+k2) kk dk)
     case atStart=>exact ⟨k,1,q+1,d,rfl,rfl,Nat.le_refl _,by omega,by omega,(putRowK_self encV 2 (Sort.ahead w (q+1)) blk off d (holdsK_ahead encV 2 w (q+1) blk off d HH.out)).symm,CompInv.start A.out (keeps_neg (by omega) (by rw [B.out.1,B.out.2]))⟩
     case round =>
      obtain ⟨kk,k2,q2,dk,rfl,rfl,h1,hle,hg2,hwr,hI⟩:=hrel
      have hkk:=hI.lt
      have hds:=hI.size
      have hHk:HoldsK encV 2 wr blk off dk:=by rw [hwr]; exact holdsK_putRowK encV 2 _ blk off d dk (holdsK_ahead encV 2 w q2 blk off d HH.out) hds
      have W2:Aside (wr=putRowK encV 2 (Sort.ahead w q2) blk off dk):=hwr
      have I2:Aside (CompInv d (k+k2) kk dk):=hI
      clear hwr
      by_cases hlt2:k+k2 < d.size
      ·obtain ⟨cm,_⟩:=hHk.cell (i:=k+k2) (by omega) (c:=0) (by decide)
       obtain ⟨cm',_⟩:=hHk.cell (i:=k+k2) (by omega) (c:=1) (by decide)
       obtain ⟨cp,_⟩:=hHk.cell (i:=k+k2 - 1) (by omega) (c:=0) (by decide)
       obtain ⟨cp',_⟩:=hHk.cell (i:=k+k2 - 1) (by omega) (c:=1) (by decide)
       obtain ⟨ck,fk⟩:=hHk.cell (i:=kk) (by omega) (c:=0) (by decide)
       obtain ⟨ck',fk'⟩:=hHk.cell (i:=kk) (by omega) (c:=1) (by decide)
       rw [hI.high (k+k2) (by omega),(encat _).1,show off+(k+k2) * 2+0=off+k * 2+k2 * 2 by omega] at cm
       rw [hI.high (k+k2) (by omega),(encat _).2,show off+(k+k2) * 2+1=off+k * 2+k2 * 2+1 by omega] at cm'
       rw [hI.high (k+k2 - 1) (by omega),(encat _).1,show off+(k+k2 - 1) * 2+0=off+k * 2+(k2 - 1) * 2 by omega] at cp
       rw [hI.high (k+k2 - 1) (by omega),(encat _).2,show off+(k+k2 - 1) * 2+1=off+k * 2+(k2 - 1) * 2+1 by omega] at cp'
       rw [(encat _).1,Nat.add_zero] at ck
       rw [(encat _).2] at ck'
       rw [Nat.add_zero] at fk
       clear hHk hI
       generalize hu:d[k+k2]! = u at cm cm'
       generalize hv:d[k+k2 - 1]! = v at cp cp'
       generalize dk[kk]! = old at ck ck'
       have C:Aside (d[k+k2]! = u/\d[k+k2 - 1]! = v):=⟨hu,hv⟩
       clear hu hv
       obtain ⟨u1,u2⟩:=u
       obtain ⟨v1,v2⟩:=v
       obtain ⟨o1,o2⟩:=old
       simp only at cm cm' cp cp' ck ck'
       by_cases huv:((u1,u2):DV)=(v1,v2)
       ·injection huv with e1 e2
        subst e1 e2
        go_wp2_with fail
        go_region_o
        go_wp2
        go_roundg (d.size - (k+(k2+1)))
        case measure=>omega
        case rel=>exact ⟨kk,k2+1,q2+1,dk,rfl,by go_num,by omega,by omega,Nat.le_refl _,by rw [W2.out]; rfl,I2.out.skip (keeps_neg (by omega) (by rw [C.out.1,C.out.2]))⟩
       ·have huv2:¬ (u1=v1/\u2=v2):=fun h=>huv (by rw [h.1,h.2])
        have hbe2:(decide (u1=v1) && decide (u2=v2))=false:=by
         by_cases e1:u1=v1<;>by_cases e2:u2=v2<;>simp [e1,e2]<;>exact huv2 ⟨e1,e2⟩
        have HU:Aside (¬ ((u1,u2):DV)=(v1,v2)):=huv
        clear huv huv2
        go_wp2_with fail
        go_region_o
        go_wp2
        go_roundg (d.size - (k+(k2+1)))
        case measure=>omega
        case rel=>exact ⟨kk+1,k2+1,q2+1,dk.setIfInBounds kk (u1,u2),by go_num,by go_num,by omega,by omega,Nat.le_refl _,store_world_v (by omega) W2.out u1 u2,by have:=I2.out.keep hlt2 (keeps_pos (by rw [C.out.1,C.out.2]; exact HU.out)); rwa [C.out.1] at this⟩
      ·have hend:k+k2=d.size:=by omega
       have hcl:∀ ty,(Builtin.clear_ #[25] ty #[.slice (some ⟨blk,off+kk * 2,none⟩) (d.size - kk) (cap - kk)]).run Tryz.prog wr=.ok (.tuple #[]) (wr.setCells blk (off+kk * 2) (List.replicate ((d.size - kk) * 2) (.int .i64 0))) :=
        fun ty=>run_clear_vec wr ty blk (off+kk * 2) _ _ (by omega) (fun j hj=>by
         have h:=(hHk (kk * 2+j) (by simp [hds]; omega)).1
         rw [show off+kk * 2+j=off+(kk * 2+j) by omega,h]; rfl) (fun j hj=>by
         have h:=(hHk (kk * 2+j) (by simp [hds]; omega)).2
         rw [show off+kk * 2+j=off+(kk * 2+j) by omega]; exact h)
       clear hHk hI
       go_wp2
       go_ret
       have hI:=I2.out
       rw [hend] at hI
       refine ⟨by rw [hI.len]; rfl,q2,?_⟩
       have hz:=setMany_zero dk (k:=kk) (by omega) (compactUpTo d d.size) hI.len hI.low
       rw [hI.len,W2.out]
       unfold putRowK
       rw [setCells_putRow _ _ _ _ _ _ (by rw [size_flatK,List.length_replicate]; omega),show d.size - kk=dk.size - kk by rw [hds],hz]
    ·have hbe2:(decide (x1=y1) && decide (x2=y2))=false:=by rw [hbe]; exact decide_eq_false hdup
     have HD:Aside (¬ ((x1,x2):DV)=(y1,y2)):=hdup
     clear hdup hbe
     go_wp2_with fail
     go_region_o
     go_wp2
     go_roundg (d.size - (k+1))
     case measure=>omega
     case rel =>
      refine ⟨k+1,q+1,by omega,by omega,Nat.le_refl _,by go_num,rfl,fun j hj=>?_⟩
      by_cases e:j=k
      ·subst e
       exact keeps_pos (by rw [B.out.1,B.out.2]; exact HD.out)
      ·exact A.out j (by omega)
   ·have:k=d.size:=by omega
    subst this
    have HH:Aside (HoldsK encV 2 w blk off d):=hH
    clear hH
    go_wp2
    go_ret
    obtain ⟨e1,e2⟩:=HS.out q hall
    exact ⟨by rw [e1]; rfl,q,e2⟩
theorem compact_fn (l:List DV) (h0:0 < l.length) (hn:l.length<=1048576):FnR Tryz.prog 236 [] 24 tVec l (cmpD l) true:=by
 refine FnR.of (enters_of Tryz.func236 (by kernel_rfl) rfl) h0 true fun hI w g cap hg hc hcm hH=>?_
 have hcon:=compact_any g 0 cap l.toArray w hH (by simp; omega) (by simpa using hc)
 have hdl:l.toArray.size=l.length:=by simp
 rw [hdl,cpt_all] at hcon
 refine Calls.mono hcon ?_
 rintro e w' ⟨rfl,n,rfl⟩
 have hcl:=cmpD_len (l:=l)
 refine ⟨cmpD l++List.replicate (l.length - (cmpD l).length) (0,0),n,#[],rfl,(fun h=>by cases h),?_,fun x hx=>?_,?_,?_,?_⟩
 ·rw [List.length_append,List.length_replicate]; omega
 ·rcases List.mem_append.1 hx with h|h
  ·exact .inl (cmpD_mem.1 h)
  ·exact .inr (List.eq_of_mem_replicate h)
 ·rw [List.take_left']; rfl
 ·rw [List.length_append]; omega
 ·unfold sortWorldK
  rw [grow_empty]
theorem cloneV_fn (l:List DV) (h0:0 < l.length) (hn:l.length<=1048576):FnG Tryz.prog 41 [⟨.slice tVec,l⟩] 24 tVec l:=by
 refine fnG_enter tabOK mixes Tryz.func41 rfl rfl _ Tryz.ntmps41 _ Tryz.results41 (by simp) fun hwf=>?_
 try simp (maxSteps:=9^9) only[go_sem]
 refine NilW.non (by intro e; rw [e] at h0; simp at h0) ?_
 try simp (maxSteps:=9^9) only[go_sem]
 repeat refine AI ?_
 exact ⟨0,1,rfl,rfl⟩
theorem HullOf_fn (l:List DV) (hl:∀ v ∈ l,okV v=true) (h0:0 < l.length) (hn:l.length<=64):Fn Tryz.prog 202 [⟨.slice tVec,l⟩] true [⟨.slice tVec,hullD l⟩]:=by
 have c1:=areVecs_fn l
 rw [any_okV_f hl] at c1
 have d0:=decide_eq_false (p:=(l.length:Int) > 64) (by omega)
 have c2:=cloneV_fn l h0 (by omega)
 have c3:=sort_fn l hl h0 (by omega)
 have hml:(l.mergeSort leB).length=l.length:=List.length_mergeSort _
 have c4:=compact_fn (l.mergeSort leB) (by omega) (by omega)
 have hsl:=srtD_len l
 have hsm:∀ v ∈ srtD l,okV v=true:=fun v hv=>hl v (srtD_mem.1 hv)
 have hcs:cmpD (l.mergeSort leB)=srtD l:=rfl
 rw [hcs] at c4
 refine fe Tryz.func202 Tryz.ntmps202 Tryz.results202 fun hwf=>?_
 try simp (maxSteps:=9^9) only[go_sem,d0]
 repeat refine AI ?_
 refine cw c1 ?_
 try simp (maxSteps:=9^9) only[go_sem]
 repeat refine AI ?_
 refine CallW.g (c2) ?_
 try simp (maxSteps:=9^9) only[go_sem]
 repeat refine AI ?_
 refine CallW.r (k:=0) (ver:=0) (o:=true) (c3) ?_
 try simp (maxSteps:=9^9) only[go_sem]
 repeat refine AI ?_
 refine CallW.r (k:=0) (ver:=0) (o:=true) (c4) ?_
 try simp (maxSteps:=9^9) only[go_sem]
 refine CondW_dec (fun hA=>?_) (fun hA=>?_)
 ·have hh:hullD l=srtD l:=by unfold hullD; rw [if_pos (by omega)]
  rw [hh]
  try simp (maxSteps:=9^9) only[go_sem]
 ·have hh:hullD l=chD (srtD l)++chD (srtD l).reverse:=by unfold hullD; rw [if_neg (by omega)]
  rw [hh]
  generalize srtD l=s at hsl hsm hA ⊢
  have c5:=chain_fn s hsm (by omega) (by omega)
  have c6:=reverse_fn s (by omega) (by omega)
  have hrl:s.reverse.length=s.length:=List.length_reverse
  have c7:=chain_fn s.reverse (fun v hv=>hsm v (List.mem_reverse.1 hv)) (by omega) (by omega)
  have q1:=chR_len s
  have q2:=chR_len s.reverse
  have q3:(chD s).length<=s.length:=by unfold chD; rw [List.length_dropLast,List.length_reverse]; omega
  have q4:(chD s.reverse).length<=s.length:=by unfold chD; rw [List.length_dropLast,List.length_reverse]; omega
  try simp (maxSteps:=9^9) only[go_sem]
  repeat refine AI ?_
  refine CallW.g (c5) ?_
  try simp (maxSteps:=9^9) only[go_sem]
  repeat refine AI ?_
  refine CallW.r (k:=0) (ver:=1) (o:=true) (c6) ?_
  try simp (maxSteps:=9^9) only[go_sem]
  repeat refine AI ?_
  refine CallW.g (c7) ?_
  try simp (maxSteps:=9^9) only[go_sem]
  repeat refine AI ?_
  omega
def crs (u v:DV):Int:=u.1 * v.2 - u.2 * v.1
def dt (u v:DV):Int:=u.1 * v.1+u.2 * v.2
def sbV (a b:DV):DV:=(a.1 - b.1,a.2 - b.2)
def Rt (d:DV):Prop:=0 < d.1\/d.1=0/\0 < d.2
theorem Rt_of {a b:DV} (h:ltV a b):Rt (sbV b a):=by unfold ltV at h; unfold Rt sbV; simp only; omega
theorem crs_nn {u v w:DV} (hu:Rt u) (hv:Rt v) (hw:Rt w) (h1:0<=crs u v) (h2:0<=crs v w):0<=crs u w:=by
 have key:v.1 * crs u w=u.1 * crs v w+w.1 * crs u v:=by unfold crs; grind
 have u1:0<=u.1:=by unfold Rt at hu; omega
 have w1:0<=w.1:=by unfold Rt at hw; omega
 rcases hv with hv|⟨hv,hv2⟩
 ·by_cases hc:0<=crs u w
  ·exact hc
  ·have h3:=Int.mul_neg_of_pos_of_neg hv (show crs u w < 0 by omega)
   have h4:=Int.mul_nonneg u1 h2
   have h5:=Int.mul_nonneg w1 h1
   omega
 ·have e:crs v w=-(v.2 * w.1):=by unfold crs; rw [hv]; grind
  have hw0:w.1=0:=by
   by_cases hp:0 < w.1
   ·have:=Int.mul_pos hv2 hp
    omega
   ·omega
  have hw2:0 < w.2:=by unfold Rt at hw; omega
  have e2:crs u w=u.1 * w.2:=by unfold crs; rw [hw0]; grind
  rw [e2]
  exact Int.mul_nonneg u1 (Int.le_of_lt hw2)
theorem crs_sw (u v:DV):crs u v=- crs v u:=by unfold crs; grind
theorem crs_pn {u v w:DV} (hu:Rt u) (hv:Rt v) (hw:Rt w) (h1:0 < crs u v) (h2:0<=crs v w):0 < crs u w:=by
 have h3:=crs_nn hu hv hw (Int.le_of_lt h1) h2
 by_cases hc:crs u w=0
 ·have h4:=crs_nn hv hw hu h2 (by rw [crs_sw]; omega)
  rw [crs_sw] at h4
  omega
 ·omega
theorem crs_np {u v w:DV} (hu:Rt u) (hv:Rt v) (hw:Rt w) (h1:0<=crs u v) (h2:0 < crs v w):0 < crs u w:=by
 have h3:=crs_nn hu hv hw h1 (Int.le_of_lt h2)
 by_cases hc:crs u w=0
 ·have h4:=crs_nn hw hu hv (by rw [crs_sw]; omega) h1
  rw [crs_sw] at h4
  omega
 ·omega
theorem trn_crs (a b c:DV):trn a b c=crs (sbV b a) (sbV c a):=rfl
theorem trn_crs2 (a b c:DV):trn a b c=crs (sbV b a) (sbV c b):=by unfold trn crs sbV; grind
theorem trn_add (a b x y:DV):trn a b y=crs (sbV b a) (sbV y x)+trn a b x:=by unfold trn crs sbV; grind
theorem trn_aa (a b:DV):trn a b a=0:=by unfold trn; grind
theorem trn_bb (a b:DV):trn a b b=0:=by unfold trn; grind
def edg:List DV->List (DV × DV)
 | b :: a :: l=>(a,b) :: edg (a :: l)
 | _=>[]
def dir (e:DV × DV):DV:=sbV e.2 e.1
theorem edg_cons {v b:DV} {l:List DV}:edg (v :: b :: l)=(b,v) :: edg (b :: l):=rfl
theorem edg_mem:∀ {r:List DV} {e:DV × DV},e ∈ edg r->e.1 ∈ r/\e.2 ∈ r
 | [],e,h=>by simp [edg] at h
 | [a],e,h=>by simp [edg] at h
 | b :: a :: l,e,h=>by
  rw [edg_cons] at h
  rcases List.mem_cons.1 h with rfl|h
  ·exact ⟨by simp,by simp⟩
  ·obtain ⟨h1,h2⟩:=edg_mem h
   exact ⟨List.mem_cons_of_mem _ h1,List.mem_cons_of_mem _ h2⟩
structure ChOK (P:DV->Prop) (r:List DV):Prop where
 desc:r.Pairwise (fun x y=>ltV y x)
 cvx:(edg r).Pairwise (fun e f=>0 < crs (dir f) (dir e))
 low:∀ e ∈ edg r,∀ p,P p->0<=trn e.1 e.2 p
 str:∀ e ∈ edg r,∀ x ∈ r,x=e.1\/x=e.2\/0 < trn e.1 e.2 x
 sub:∀ x ∈ r,P x
theorem edg_lt:∀ {r:List DV} {e:DV × DV},r.Pairwise (fun x y=>ltV y x)->e ∈ edg r->ltV e.1 e.2
 | [],e,_,h=>by simp [edg] at h
 | [a],e,_,h=>by simp [edg] at h
 | b :: a :: l,e,hd,h=>by
  rw [edg_cons] at h
  rw [List.pairwise_cons] at hd
  rcases List.mem_cons.1 h with rfl|h
  ·exact hd.1 a (by simp)
  ·exact edg_lt hd.2 h
theorem ChOK.tail {P:DV->Prop} {b:DV} {l:List DV} (h:ChOK P (b :: l)):ChOK P l:=by
 have hd:=(List.pairwise_cons.1 h.desc).2
 cases l with
 | nil=>exact ⟨List.Pairwise.nil,List.Pairwise.nil,(fun e he=>by simp [edg] at he),(fun e he=>by simp [edg] at he),(fun x hx=>by simp at hx)⟩
 | cons a l =>
  have hc:=h.cvx
  rw [edg_cons] at hc
  exact ⟨hd,(List.pairwise_cons.1 hc).2,fun e he=>h.low e (by rw [edg_cons]; exact List.mem_cons_of_mem _ he),fun e he x hx=>h.str e (by rw [edg_cons]; exact List.mem_cons_of_mem _ he) x (List.mem_cons_of_mem _ hx),fun x hx=>h.sub x (List.mem_cons_of_mem _ hx)⟩
structure Popped (P:DV->Prop) (v:DV) (r:List DV) (b:DV) (l:List DV):Prop where
 ok:ChOK P (b :: l)
 last:∀ x,r.getLast? = some x->(b :: l).getLast? = some x
 stop:∀ a l',l=a :: l'->0 < trn a b v
 gone:(∃ l',r=b :: l')\/∃ c,ltV b c/\P c/\trn b c v<=0/\∀ p,P p->0<=trn b c p
theorem popD_ok {P:DV->Prop} {v:DV}:∀ {r:List DV} {b0:DV} {l0:List DV},r=b0 :: l0->ChOK P r->∃ b l,popD v r=b :: l/\Popped P v r b l
 | [],_,_,h,_=>by cases h
 | [a],_,_,_,hc=>⟨a,[],rfl,hc,fun x hx=>hx,(fun a l' h=>by cases h),.inl ⟨[],rfl⟩⟩
 | b :: a :: l,_,_,_,hc=>by
  by_cases ht:trn a b v<=0
  ·obtain ⟨b',l',e,hp⟩:=popD_ok (v:=v) (r:=a :: l) rfl hc.tail
   refine ⟨b',l',by rw [popD,if_pos ht]; exact e,hp.ok,fun x hx=>hp.last x (by rw [List.getLast?_cons_cons] at hx; exact hx),hp.stop,.inr ?_⟩
   rcases hp.gone with ⟨l2,h2⟩|h2
   ·injection h2 with h2 _
    subst h2
    exact ⟨b,(List.pairwise_cons.1 hc.desc).1 a (by simp),hc.sub b (by simp),ht,fun p hp=>hc.low (a,b) (by rw [edg_cons]; simp) p hp⟩
   ·exact h2
  ·exact ⟨b,a :: l,by rw [popD,if_neg ht],hc,fun x hx=>hx,(fun a' l' h=>by injection h with h _; subst h; omega),.inl ⟨a :: l,rfl⟩⟩
theorem push_ok {P:DV->Prop} {v b m:DV} {r l:List DV} (hp:Popped P v r b l) (hv:∀ p,P p->ltV p v) (hm:r.getLast? = some m) (hmin:∀ p,P p->p=m\/ltV m p) (htop:∀ t l',r=t :: l'->∀ p,P p->p=t\/ltV p t) :
  ChOK (fun p=>p=v\/P p) (v :: b :: l):=by
 have hb:P b:=hp.ok.sub b (by simp)
 have hbv:=hv b hb
 have rv:=Rt_of hbv
 have hml:=hp.last m hm
 have left:∀ p,P p->ltV p b->0 < trn b v p:=by
  intro p hP hlt
  cases l with
  | nil =>
   simp at hml
   subst hml
   rcases hmin p hP with rfl|h
   ·exact absurd hlt (ltV_irrefl _)
   ·exact absurd hlt (ltV_asymm h)
  | cons a l' =>
   have h1:=hp.stop a l' rfl
   have h2:=hp.ok.low (a,b) (by rw [edg_cons]; simp) p hP
   have hab:=(List.pairwise_cons.1 hp.ok.desc).1 a (by simp)
   rw [trn_crs2] at h1 h2
   have h3:0<=crs (sbV b p) (sbV b a):=by
    have:crs (sbV b p) (sbV b a)=crs (sbV b a) (sbV p b):=by unfold crs sbV; grind
    rw [this]; exact h2
   have h4:=crs_np (Rt_of hlt) (Rt_of hab) rv h3 h1
   have:trn b v p=crs (sbV b p) (sbV v b):=by unfold trn crs sbV; grind
   rw [this]; exact h4
 have all:∀ p,P p->0<=trn b v p:=by
  intro p hP
  rcases ltV_tri p b with h|h|h
  ·exact Int.le_of_lt (left p hP h)
  ·subst h; rw [trn_aa]; exact Int.le_refl _
  ·rcases hp.gone with ⟨l',hr⟩|⟨c,h1,h2,h3,h4⟩
   ·rcases htop b l' hr p hP with rfl|h5
    ·exact absurd h (ltV_irrefl _)
    ·exact absurd h (ltV_asymm h5)
   ·have h5:=h4 p hP
    rw [trn_crs] at h3 h5
    rw [trn_crs]
    exact crs_nn rv (Rt_of h1) (Rt_of h) (by rw [crs_sw]; omega) h5
 have bend:∀ f ∈ edg (b :: l),0 < crs (dir f) (sbV v b):=by
  intro f hf
  cases l with
  | nil=>simp [edg] at hf
  | cons a l' =>
   have h1:=hp.stop a l' rfl
   rw [trn_crs2] at h1
   have hab:=(List.pairwise_cons.1 hp.ok.desc).1 a (by simp)
   have hc:=hp.ok.cvx
   rw [edg_cons] at hc hf
   rcases List.mem_cons.1 hf with rfl|hf
   ·exact h1
   ·have h2:=(List.pairwise_cons.1 hc).1 f hf
    have h3:=edg_lt (List.pairwise_cons.1 hp.ok.desc).2 hf
    exact crs_pn (Rt_of h3) (Rt_of hab) rv h2 (Int.le_of_lt h1)
 have oldv:∀ f ∈ edg (b :: l),0 < trn f.1 f.2 v:=by
  intro f hf
  have h1:=bend f hf
  have h2:=hp.ok.low f hf b hb
  rw [trn_add f.1 f.2 b v]
  unfold dir at h1
  omega
 refine ⟨List.pairwise_cons.2 ⟨fun x hx=>hv x (hp.ok.sub x hx),hp.ok.desc⟩,?_,?_,?_,?_⟩
 ·rw [edg_cons]
  exact List.pairwise_cons.2 ⟨fun f hf=>bend f hf,hp.ok.cvx⟩
 ·intro e he p hP
  rw [edg_cons] at he
  rcases List.mem_cons.1 he with rfl|he2
  ·rcases hP with rfl|hP
   ·show 0<=trn b p p; rw [trn_bb]; exact Int.le_refl _
   ·exact all p hP
  ·rcases hP with rfl|hP
   ·exact Int.le_of_lt (oldv e he2)
   ·exact hp.ok.low e he2 p hP
 ·intro e he x hx
  rw [edg_cons] at he
  rcases List.mem_cons.1 he with rfl|he2
  ·rcases List.mem_cons.1 hx with rfl|hx
   ·exact .inr (.inl rfl)
   ·rcases List.mem_cons.1 hx with rfl|hx
    ·exact .inl rfl
    ·exact .inr (.inr (left x (hp.ok.sub x (List.mem_cons_of_mem _ hx)) ((List.pairwise_cons.1 hp.ok.desc).1 x hx)))
  ·rcases List.mem_cons.1 hx with rfl|hx
   ·exact .inr (.inr (oldv e he2))
   ·exact hp.ok.str e he2 x hx
 ·intro x hx
  rcases List.mem_cons.1 hx with rfl|hx
  ·exact .inl rfl
  ·exact .inr (hp.ok.sub x hx)
theorem chR_ok:∀ (n:Nat) {l:List DV},l.length=n+1->l.Pairwise ltV →
  ∃ t r,chR l=t :: r/\(chR l).getLast? = l.head?/\l.getLast? = some t/\ChOK (fun p=>p ∈ l) (chR l)
 | 0,l,hl,hs=>by
  match l,hl with
  | [a],_=>exact ⟨a,[],rfl,rfl,rfl,⟨List.pairwise_singleton _ _,List.Pairwise.nil,(fun e he=>by simp [chR,popD,edg] at he),(fun e he=>by simp [chR,popD,edg] at he),fun x hx=>hx⟩⟩
 | n+1,l,hl,hs=>by
  obtain ⟨l',v,rfl⟩:∃ l' v,l=l'++[v]:=⟨l.dropLast,l.getLast (by intro h; rw [h] at hl; simp at hl),(List.dropLast_concat_getLast _).symm⟩
  have hl':l'.length=n+1:=by simp at hl; omega
  rw [List.pairwise_append] at hs
  obtain ⟨hs1,_,hs3⟩:=hs
  obtain ⟨t,r,e1,e2,e3,hc⟩:=chR_ok n hl' hs1
  have hst:chR (l'++[v])=v :: popD v (chR l'):=by unfold chR; rw [List.foldl_append]; rfl
  obtain ⟨b,q,e4,hp⟩:=popD_ok (v:=v) e1 hc
  obtain ⟨m,l2,rfl⟩:∃ m l2,l'=m :: l2:=by
   cases l' with
   | nil=>simp at hl'
   | cons m l2=>exact ⟨m,l2,rfl⟩
  have hlast:(chR (m :: l2)).getLast? = some m:=e2
  have hpush:=push_ok hp (fun p hpm=>hs3 p hpm v (by simp)) hlast (fun p hpm=>by
   rcases List.mem_cons.1 hpm with h|h
   ·exact .inl h
   ·exact .inr ((List.pairwise_cons.1 hs1).1 p h)) (fun t' l3 ht p hpm=>by
   rw [e1] at ht
   injection ht with ht _
   subst ht
   have hgl:(m :: l2).getLast? = some t:=e3
   obtain ⟨ys,hys⟩:=List.getLast?_eq_some_iff.1 hgl
   rw [hys] at hpm hs1
   rw [List.pairwise_append] at hs1
   rcases List.mem_append.1 hpm with h|h
   ·exact .inr (hs1.2.2 p h t (by simp))
   ·exact .inl (by simpa using h))
  refine ⟨v,popD v (chR (m :: l2)),hst,?_,List.getLast?_concat,?_⟩
  ·rw [hst,e4,List.getLast?_cons_cons,hp.last m hlast]; rfl
  ·rw [hst,e4]
   refine ⟨hpush.desc,hpush.cvx,fun e he p hpm=>hpush.low e he p ?_,hpush.str,fun x hx=>?_⟩
   ·rcases List.mem_append.1 hpm with h|h
    ·exact .inr h
    ·exact .inl (by simpa using h)
   ·rcases hpush.sub x hx with rfl|h
    ·simp
    ·exact List.mem_append.2 (.inl h)
def ngV (v:DV):DV:=(-v.1,-v.2)
theorem ngV_ngV (v:DV):ngV (ngV v)=v:=by unfold ngV; simp
theorem trn_ng (a b c:DV):trn (ngV a) (ngV b) (ngV c)=trn a b c:=by unfold trn ngV; grind
theorem ltV_ng {a b:DV}:ltV (ngV a) (ngV b) ↔ ltV b a:=by unfold ltV ngV; simp only; omega
theorem popD_ng (v:DV):∀ r:List DV,popD (ngV v) (r.map ngV)=(popD v r).map ngV
 | []=>rfl
 | [a]=>rfl
 | b :: a :: l=>by
  have ih:=popD_ng v (a :: l)
  simp only [List.map_cons] at ih ⊢
  rw [popD,popD,trn_ng]
  split
  ·exact ih
  ·rfl
theorem chR_ng (l:List DV):chR (l.map ngV)=(chR l).map ngV:=by
 unfold chR
 have:∀ (l s:List DV),(l.map ngV).foldl (fun c v=>v :: popD v c) (s.map ngV)=(l.foldl (fun c v=>v :: popD v c) s).map ngV:=by
  intro l
  induction l with
  | nil=>intro s; rfl
  | cons a l ih =>
   intro s
   rw [List.map_cons,List.foldl_cons,List.foldl_cons,popD_ng]
   exact ih (a :: popD a s)
 exact this l []
def ngE (e:DV × DV):DV × DV:=(ngV e.1,ngV e.2)
theorem edg_ng:∀ r:List DV,edg (r.map ngV)=(edg r).map ngE
 | []=>rfl
 | [a]=>rfl
 | b :: a :: l=>by
  have ih:=edg_ng (a :: l)
  simp only [List.map_cons] at ih ⊢
  rw [edg_cons,edg_cons,ih]; rfl
theorem edg_ng_mem {r:List DV} {e:DV × DV} (h:e ∈ edg r):ngE e ∈ edg (r.map ngV):=by rw [edg_ng]; exact List.mem_map_of_mem h
theorem map_ng_ng (r:List DV):(r.map ngV).map ngV=r:=by
 rw [List.map_map,show (ngV ∘ ngV)=id from funext ngV_ngV,List.map_id]
theorem inner_of {P:DV->Prop} {x:DV}:∀ {r:List DV},ChOK P r->x ∈ r->r.head? = some x\/r.getLast? = some x\/∃ p q,(p,x) ∈ edg r/\(x,q) ∈ edg r/\0 < crs (sbV x p) (sbV q x)
 | [],_,h=>by simp at h
 | [a],_,h=>by simp at h; subst h; exact .inl rfl
 | q :: y :: l,hc,h=>by
  rcases List.mem_cons.1 h with rfl|h
  ·exact .inl rfl
  ·rcases inner_of hc.tail h with h1|h1|⟨p,q',h1,h2,h3⟩
   ·simp at h1
    subst h1
    cases l with
    | nil=>exact .inr (.inl rfl)
    | cons p l =>
     have hcv:=hc.cvx
     rw [edg_cons,edg_cons] at hcv
     refine .inr (.inr ⟨p,q,by rw [edg_cons,edg_cons]; simp,by rw [edg_cons]; simp,?_⟩)
     exact (List.pairwise_cons.1 hcv).1 (p,y) (by simp)
   ·exact .inr (.inl (by rw [List.getLast?_cons_cons]; exact h1))
   ·exact .inr (.inr ⟨p,q',by rw [edg_cons]; exact List.mem_cons_of_mem _ h1,by rw [edg_cons]; exact List.mem_cons_of_mem _ h2,h3⟩)
theorem cross_str {P:DV->Prop} {R R':List DV} (h:ChOK P R) (h':ChOK (fun p=>P (ngV p)) (R'.map ngV)) {x:DV} (hx:x ∈ R') :
  R'.head? = some x\/R'.getLast? = some x\/∀ e ∈ edg R,0 < trn e.1 e.2 x:=by
 have hx':ngV x ∈ R'.map ngV:=List.mem_map_of_mem hx
 have inj:∀ {a b:DV},ngV a=ngV b->a=b:=fun {a b} e=>by rw [<-ngV_ngV a,e,ngV_ngV]
 rcases inner_of h' hx' with h1|h1|⟨p,q,h1,h2,h3⟩
 ·rw [List.head?_map] at h1
  obtain ⟨a,ha,e⟩:=Option.map_eq_some_iff.1 h1
  exact .inl (by rw [ha,inj e])
 ·rw [List.getLast?_map] at h1
  obtain ⟨a,ha,e⟩:=Option.map_eq_some_iff.1 h1
  exact .inr (.inl (by rw [ha,inj e]))
 ·refine .inr (.inr fun e he=>?_)
  have hPp:P (ngV p):=h'.sub p (edg_mem h1).1
  have hPq:P (ngV q):=h'.sub q (edg_mem h2).2
  have hPx:P x:=by have:=h'.sub _ hx'; rw [ngV_ngV] at this; exact this
  have l1:=h.low e he _ hPp
  have l2:=h.low e he _ hPq
  have l3:=h.low e he _ hPx
  by_cases hz:trn e.1 e.2 x=0
  ·exfalso
   have hd:=Rt_of (edg_lt h.desc he)
   have ha:=Rt_of (edg_lt h'.desc h1)
   have hb:=Rt_of (edg_lt h'.desc h2)
   rw [trn_add e.1 e.2 x,hz] at l1 l2
   have e1:crs (sbV e.2 e.1) (sbV (ngV p) x)=crs (sbV e.2 e.1) (sbV (ngV x) p):=by unfold crs sbV ngV; grind
   have e2:crs (sbV e.2 e.1) (sbV (ngV q) x)=crs (sbV q (ngV x)) (sbV e.2 e.1):=by unfold crs sbV ngV; grind
   rw [e1] at l1
   rw [e2] at l2
   have:=crs_pn ha hb hd h3 (by show 0<=crs (sbV q (ngV x)) (sbV e.2 e.1); omega)
   rw [crs_sw] at this
   simp only at this
   omega
  ·omega
theorem edg_idx:∀ {r:List DV} {i:Nat},i+1 < r.length->(nth (t:=tVec) r (i+1),nth (t:=tVec) r i) ∈ edg r
 | [],i,h=>by simp at h
 | [a],i,h=>by simp at h
 | b :: a :: l,0,h=>by rw [edg_cons]; exact List.mem_cons_self
 | b :: a :: l,i+1,h=>by
  rw [edg_cons]
  refine List.mem_cons_of_mem _ ?_
  have:=edg_idx (r:=a :: l) (i:=i) (by simp at h ⊢; omega)
  simpa [nth] using this
theorem nth_rev {r:List DV} {i:Nat} (h:i < r.length):nth (t:=tVec) r.reverse i=nth (t:=tVec) r (r.length - 1 - i):=by
 rw [nth_lt (by rw [List.length_reverse]; exact h),nth_lt (by omega),List.getElem_reverse]
theorem nth_dl {r:List DV} {i:Nat} (h:i < r.length - 1):nth (t:=tVec) r.dropLast i=nth (t:=tVec) r i:=by
 rw [nth_lt (by rw [List.length_dropLast]; exact h),nth_lt (by omega),List.getElem_dropLast]
theorem nth_al {l m:List DV} {i:Nat} (h:i < l.length):nth (t:=tVec) (l++m) i=nth (t:=tVec) l i:=by
 rw [nth_lt (by rw [List.length_append]; omega),nth_lt h,List.getElem_append_left h]
theorem nth_ar {l m:List DV} {i:Nat} (h:l.length<=i) (h2:i < l.length+m.length):nth (t:=tVec) (l++m) i=nth (t:=tVec) m (i - l.length):=by
 rw [nth_lt (by rw [List.length_append]; omega),nth_lt (by omega),List.getElem_append_right h]
structure Cvx (P:DV->Prop) (H:List DV):Prop where
 three:3<=H.length
 nodup:H.Nodup
 str:∀ i,i < H.length->∀ x ∈ H,x=nth (t:=tVec) H i\/x=nth (t:=tVec) H (nxt H.length i).toNat\/0 < trn (nth (t:=tVec) H i) (nth (t:=tVec) H (nxt H.length i).toNat) x
 low:∀ i,i < H.length->∀ p,P p->0<=trn (nth (t:=tVec) H i) (nth (t:=tVec) H (nxt H.length i).toNat) p
 sub:∀ x ∈ H,P x
theorem nxt_lt {n i:Nat} (h:i+1 < n):(nxt n i).toNat=i+1:=by
 unfold nxt
 rw [Int.emod_eq_of_lt (by omega) (by omega)]; omega
theorem nxt_end {n i:Nat} (h:i+1=n):(nxt n i).toNat=0:=by
 unfold nxt
 rw [show ((i:Int)+1)=(n:Int) by omega,Int.emod_self]; rfl
theorem col0 {d u v:DV} (hd:d ≠ (0,0)) (h1:crs d u=0) (h2:crs d v=0):crs u v=0:=by
 have k1:d.1 * crs u v=u.1 * crs d v - v.1 * crs d u:=by unfold crs; grind
 have k2:d.2 * crs u v=u.2 * crs d v - v.2 * crs d u:=by unfold crs; grind
 rw [h1,h2,Int.mul_zero,Int.mul_zero,Int.sub_zero] at k1 k2
 rcases Int.mul_eq_zero.1 k1 with h|h
 ·rcases Int.mul_eq_zero.1 k2 with h'|h'
  ·exact absurd (Prod.ext h h') hd
  ·exact h'
 ·exact h
theorem nth_ap2 {l m:List DV} {x:DV} (k:Nat) (h:k=l.length):nth (t:=tVec) (l++x :: m) k=x:=by
 subst h
 rw [nth_lt (by simp),List.getElem_append_right (Nat.le_refl _)]
 simp
theorem nth_last {r:List DV} {x:DV} (h:r.getLast? = some x):nth (t:=tVec) r (r.length - 1)=x:=by
 obtain ⟨ys,rfl⟩:=List.getLast?_eq_some_iff.1 h
 rw [show (ys++[x]).length - 1=ys.length by simp]
 exact nth_ap2 _ rfl
theorem nth_head {r:List DV} {x:DV} (h:r.head? = some x):nth (t:=tVec) r 0=x:=by
 cases r with
 | nil=>simp at h
 | cons a r=>simp at h; exact h
theorem two_cvx {S R R':List DV} {m M:DV} (hm:m ∈ S) (hM:M ∈ S) (hmM:ltV m M) (hR:ChOK (fun p=>p ∈ S) R) (hR':ChOK (fun p=>ngV p ∈ S) (R'.map ngV)) (hh:R.head? = some M) (hl:R.getLast? = some m) (hh':R'.head? = some m) (hl':R'.getLast? = some M)
  (hn:∃ a ∈ S,∃ b ∈ S,∃ c ∈ S,trn a b c ≠ 0):Cvx (fun p=>p ∈ S) (R.reverse.dropLast++R'.reverse.dropLast):=by
 have inj:∀ {a b:DV},ngV a=ngV b->a=b:=fun {a b} e=>by rw [<-ngV_ngV a,e,ngV_ngV]
 have hne:m ≠ M:=fun h=>by subst h; exact ltV_irrefl _ hmM
 have k1:2<=R.length:=by
  match R,hh,hl with
  | [a],h1,h2=>simp at h1 h2; exact absurd (h2.symm.trans h1) hne
  | _ :: _ :: _,_,_=>simp
 have k2:2<=R'.length:=by
  match R',hh',hl' with
  | [a],h1,h2=>simp at h1 h2; exact absurd (h1.symm.trans h2) hne
  | _ :: _ :: _,_,_=>simp
 have mR:m ∈ R:=List.mem_of_getLast? hl
 have MR:M ∈ R:=List.mem_of_head? hh
 have mR':m ∈ R':=List.mem_of_head? hh'
 have MR':M ∈ R':=List.mem_of_getLast? hl'
 have hR2:ChOK (fun p=>ngV (ngV p) ∈ S) ((R.map ngV).map ngV):=by rw [map_ng_ng]; simpa [ngV_ngV] using hR
 have bnd:∀ e,(e ∈ edg R\/e ∈ edg R')->(∀ p ∈ S,0<=trn e.1 e.2 p)/\∀ x,(x ∈ R\/x ∈ R')->x=e.1\/x=e.2\/0 < trn e.1 e.2 x:=by
  rintro e (he|he)
  ·refine ⟨hR.low e he,fun x hx=>?_⟩
   rcases hx with hx|hx
   ·exact hR.str e he x hx
   ·rcases cross_str hR hR' hx with h|h|h
    ·rw [hh'] at h; injection h with h; subst h; exact hR.str e he m mR
    ·rw [hl'] at h; injection h with h; subst h; exact hR.str e he M MR
    ·exact .inr (.inr (h e he))
  ·have he':=edg_ng_mem he
   have key:∀ x,ngV x ∈ R'.map ngV->x=e.1\/x=e.2\/0 < trn e.1 e.2 x:=by
    intro x hx
    rcases hR'.str _ he' _ hx with h|h|h
    ·exact .inl (inj h)
    ·exact .inr (.inl (inj h))
    ·exact .inr (.inr (by rw [<-trn_ng]; exact h))
   refine ⟨fun p hp=>?_,fun x hx=>?_⟩
   ·have:=hR'.low _ he' (ngV p) (by rw [ngV_ngV]; exact hp)
    rw [<-trn_ng]; exact this
   ·rcases hx with hx|hx
    ·rcases cross_str hR' hR2 (List.mem_map_of_mem hx) with h|h|h
     ·rw [List.head?_map,hh] at h; injection h with h; rw [<-inj h]; exact key M (List.mem_map_of_mem MR')
     ·rw [List.getLast?_map,hl] at h; injection h with h; rw [<-inj h]; exact key m (List.mem_map_of_mem mR')
     ·exact .inr (.inr (by rw [<-trn_ng]; exact h _ he'))
    ·exact key x (List.mem_map_of_mem hx)
 have lL:R.reverse.length=R.length:=List.length_reverse
 have lU:R'.reverse.length=R'.length:=List.length_reverse
 have lLd:R.reverse.dropLast.length=R.length - 1:=by rw [List.length_dropLast,lL]
 have lUd:R'.reverse.dropLast.length=R'.length - 1:=by rw [List.length_dropLast,lU]
 have hH:(R.reverse.dropLast++R'.reverse.dropLast).length=(R.length - 1)+(R'.length - 1):=by rw [List.length_append,lLd,lUd]
 have iL:∀ i,i < R.length - 1->nth (t:=tVec) (R.reverse.dropLast++R'.reverse.dropLast) i=nth (t:=tVec) R (R.length - 1 - i):=fun i hi=>by
  rw [nth_al (by omega),nth_dl (by omega),nth_rev (by omega)]
 have iU:∀ j,j < R'.length - 1->nth (t:=tVec) (R.reverse.dropLast++R'.reverse.dropLast) (R.length - 1+j)=nth (t:=tVec) R' (R'.length - 1 - j):=fun j hj=>by
  rw [nth_ar (by omega) (by omega),lLd,show R.length - 1+j - (R.length - 1)=j by omega,nth_dl (by omega),nth_rev (by omega)]
 have r0:=nth_head hh
 have r1:=nth_last hl
 have s0:=nth_head hh'
 have s1:=nth_last hl'
 have iedg:∀ i,i < (R.length - 1)+(R'.length - 1)->(nth (t:=tVec) (R.reverse.dropLast++R'.reverse.dropLast) i,nth (t:=tVec) (R.reverse.dropLast++R'.reverse.dropLast) (nxt ((R.length - 1)+(R'.length - 1)) i).toNat) ∈ edg R\/(nth (t:=tVec) (R.reverse.dropLast++R'.reverse.dropLast) i,nth (t:=tVec) (R.reverse.dropLast++R'.reverse.dropLast) (nxt ((R.length - 1)+(R'.length - 1)) i).toNat) ∈ edg R':=by
  intro i hi
  by_cases h:i < R.length - 1
  ·left
   have e:=edg_idx (r:=R) (i:=R.length - 2 - i) (by omega)
   rw [nxt_lt (by omega),iL i h]
   have h2:nth (t:=tVec) (R.reverse.dropLast++R'.reverse.dropLast) (i+1)=nth (t:=tVec) R (R.length - 2 - i):=by
    by_cases h3:i+1 < R.length - 1
    ·rw [iL _ h3]; congr 1; omega
    ·rw [show i+1=R.length - 1+0 by omega,iU 0 (by omega),show R'.length - 1 - 0=R'.length - 1 by omega,s1,show R.length - 2 - i=0 by omega,r0]
   rw [h2,show R.length - 1 - i=R.length - 2 - i+1 by omega]
   exact e
  ·right
   obtain ⟨j,rfl⟩:∃ j,i=R.length - 1+j:=⟨i - (R.length - 1),by omega⟩
   have e:=edg_idx (r:=R') (i:=R'.length - 2 - j) (by omega)
   rw [iU j (by omega)]
   have h2:nth (t:=tVec) (R.reverse.dropLast++R'.reverse.dropLast) (nxt ((R.length - 1)+(R'.length - 1)) (R.length - 1+j)).toNat=nth (t:=tVec) R' (R'.length - 2 - j):=by
    by_cases h3:j+1 < R'.length - 1
    ·rw [nxt_lt (by omega),show R.length - 1+j+1=R.length - 1+(j+1) by omega,iU _ h3]; congr 1; omega
    ·rw [nxt_end (by omega),iL 0 (by omega),show R.length - 1 - 0=R.length - 1 by omega,r1,show R'.length - 2 - j=0 by omega,s0]
   rw [h2,show R'.length - 1 - j=R'.length - 2 - j+1 by omega]
   exact e
 have inH:∀ x,x ∈ R.reverse.dropLast++R'.reverse.dropLast->x ∈ R\/x ∈ R':=by
  intro x hx
  rcases List.mem_append.1 hx with h|h
  ·exact .inl (List.mem_reverse.1 (List.dropLast_subset _ h))
  ·exact .inr (List.mem_reverse.1 (List.dropLast_subset _ h))
 have subS:∀ x,(x ∈ R\/x ∈ R')->x ∈ S:=by
  rintro x (h|h)
  ·exact hR.sub x h
  ·have:=hR'.sub _ (List.mem_map_of_mem h); rw [ngV_ngV] at this; exact this
 have dL:R.reverse.Pairwise ltV:=List.pairwise_reverse.2 hR.desc
 have dU:R'.reverse.Pairwise (fun a b=>ltV b a):=by
  have:=hR'.desc
  rw [List.pairwise_map] at this
  exact List.pairwise_reverse.2 (this.imp fun {a b} h=>ltV_ng.1 h)
 have spL:R.reverse=R.reverse.dropLast++[M]:=by
  have:R.reverse.getLast? = some M:=by rw [List.getLast?_reverse]; exact hh
  obtain ⟨ys,hy⟩:=List.getLast?_eq_some_iff.1 this
  rw [hy]; simp
 have spU:R'.reverse=R'.reverse.dropLast++[m]:=by
  have:R'.reverse.getLast? = some m:=by rw [List.getLast?_reverse]; exact hh'
  obtain ⟨ys,hy⟩:=List.getLast?_eq_some_iff.1 this
  rw [hy]; simp
 have ltM:∀ x ∈ R.reverse.dropLast,ltV x M:=fun x hx=>by
  rw [spL] at dL
  exact (List.pairwise_append.1 dL).2.2 x hx M (by simp)
 have gtm:∀ x ∈ R'.reverse.dropLast,ltV m x:=fun x hx=>by
  rw [spU] at dU
  exact (List.pairwise_append.1 dU).2.2 x hx m (by simp)
 refine ⟨?_,?_,?_,?_,fun x hx=>subS x (inH x hx)⟩
 ·rw [hH]
  by_cases h:3<=R.length - 1+(R'.length - 1)
  ·exact h
  ·exfalso
   have h1:R.length=2:=by omega
   have h2:R'.length=2:=by omega
   have e1:=edg_idx (r:=R) (i:=0) (by omega)
   have e2:=edg_idx (r:=R') (i:=0) (by omega)
   rw [show 0+1=R.length - 1 by omega,r1,r0] at e1
   rw [show 0+1=R'.length - 1 by omega,s1,s0] at e2
   have z:∀ p ∈ S,crs (sbV M m) (sbV p m)=0:=fun p hp=>by
    have p1:=(bnd _ (.inl e1)).1 p hp
    have p2:=(bnd _ (.inr e2)).1 p hp
    have:trn M m p=- trn m M p:=by unfold trn; grind
    simp only at p1 p2
    rw [this] at p2
    rw [<-trn_crs]
    omega
   obtain ⟨a,ha,b,hb,c,hc,hne2⟩:=hn
   refine hne2 ?_
   rw [trn_crs]
   refine col0 (d:=sbV M m) (fun h=>?_) ?_ ?_
   ·have q1:=congrArg Prod.fst h
    have q2:=congrArg Prod.snd h
    unfold sbV at q1 q2
    simp only at q1 q2
    exact hne (Prod.ext (by omega) (by omega))
   ·have:crs (sbV M m) (sbV b a)=crs (sbV M m) (sbV b m) - crs (sbV M m) (sbV a m):=by unfold crs sbV; grind
    rw [this,z b hb,z a ha]; rfl
   ·have:crs (sbV M m) (sbV c a)=crs (sbV M m) (sbV c m) - crs (sbV M m) (sbV a m):=by unfold crs sbV; grind
    rw [this,z c hc,z a ha]; rfl
 ·rw [List.nodup_append]
  refine ⟨?_,?_,?_⟩
  ·exact (dL.sublist (List.dropLast_sublist _)).imp fun {a b} h e=>by subst e; exact ltV_irrefl _ h
  ·exact (dU.sublist (List.dropLast_sublist _)).imp fun {a b} h e=>by subst e; exact ltV_irrefl _ h
  ·rintro x hx y hy rfl
   have q1:=ltM x hx
   have q2:=gtm x hy
   have hxR':x ∈ R':=List.mem_reverse.1 (List.dropLast_subset _ hy)
   rcases cross_str hR hR' hxR' with h|h|h
   ·rw [hh'] at h; injection h with h; subst h; exact ltV_irrefl _ q2
   ·rw [hl'] at h; injection h with h; subst h; exact ltV_irrefl _ q1
   ·obtain ⟨i,hi,rfl⟩:=List.getElem_of_mem hx
    have hi2:i < R.length - 1:=by omega
    have e:=edg_idx (r:=R) (i:=R.length - 2 - i) (by omega)
    have e2:R.reverse.dropLast[i]=nth (t:=tVec) R (R.length - 2 - i+1):=by
     rw [<-nth_lt (t:=tVec) hi,nth_dl (by omega),nth_rev (by omega)]; congr 1; omega
    have:=h _ e
    rw [e2] at this
    simp only at this
    rw [trn_aa] at this
    omega
 ·intro i hi x hx
  rw [hH] at hi ⊢
  exact (bnd _ (iedg i hi)).2 x (inH x hx)
 ·intro i hi p hp
  rw [hH] at hi ⊢
  exact (bnd _ (iedg i hi)).1 p hp
theorem hull_cvx {S:List DV} (hs:S.Pairwise ltV) (hn:∃ a ∈ S,∃ b ∈ S,∃ c ∈ S,trn a b c ≠ 0):Cvx (fun p=>p ∈ S) (chD S++chD S.reverse):=by
 have hn':=hn
 obtain ⟨a,ha,b,hb,c,hc,hne⟩:=hn'
 obtain ⟨n,hnl⟩:∃ n,S.length=n+1:=⟨S.length - 1,by have:=List.length_pos_of_mem ha; omega⟩
 obtain ⟨t,r,e1,e2,e3,hR⟩:=chR_ok n hnl hs
 have hsr:(S.reverse.map ngV).Pairwise ltV:=by
  rw [List.pairwise_map,List.pairwise_reverse]
  exact hs.imp fun {a b} h=>ltV_ng.2 h
 obtain ⟨t',r',f1,f2,f3,hR0⟩:=chR_ok n (l:=S.reverse.map ngV) (by rw [List.length_map,List.length_reverse]; exact hnl) hsr
 rw [chR_ng] at f1 f2 hR0
 have hR':ChOK (fun p=>(ngV p) ∈ S) ((chR S.reverse).map ngV):=by
  refine ⟨hR0.desc,hR0.cvx,fun e he p hp=>hR0.low e he p ?_,hR0.str,fun x hx=>?_⟩
  ·rw [show p=ngV (ngV p) from (ngV_ngV p).symm]
   exact List.mem_map_of_mem (List.mem_reverse.2 hp)
  ·obtain ⟨y,hy,rfl⟩:=List.mem_map.1 (hR0.sub x hx)
   rw [ngV_ngV]
   exact List.mem_reverse.1 hy
 have injO:∀ {a b:Option DV},a.map ngV=b.map ngV->a=b:=by
  intro a b h
  have:=congrArg (Option.map ngV) h
  simpa [Option.map_map,show (ngV ∘ ngV)=id from funext ngV_ngV] using this
 have g2:(chR S.reverse).getLast? = S.getLast?:=by
  rw [List.getLast?_map,List.head?_map] at f2
  rw [injO f2,List.head?_reverse]
 have g3:(chR S.reverse).head? = S.head?:=by
  have h1:((chR S.reverse).map ngV).head? = some t':=by rw [f1]; rfl
  rw [<-f3,List.head?_map,List.getLast?_map,List.getLast?_reverse] at h1
  exact injO h1
 have g1:(chR S).head? = S.getLast?:=by rw [e1,e3]; rfl
 obtain ⟨m,S',rfl⟩:∃ m S',S=m :: S':=by
  cases S with
  | nil=>simp at ha
  | cons m S'=>exact ⟨m,S',rfl⟩
 obtain ⟨M,hM1,hM2⟩:∃ M,(m :: S').getLast? = some M/\M ∈ S':=by
  cases S' with
  | nil =>
   simp at ha hb hc
   subst ha hb hc
   exact absurd (trn_aa _ _) hne
  | cons x S'=>exact ⟨(x :: S').getLast (by simp),by rw [List.getLast?_cons_cons,List.getLast?_eq_some_getLast],List.getLast_mem _⟩
 exact two_cvx (m:=m) (M:=M) (by simp) (List.mem_cons_of_mem _ hM2) ((List.pairwise_cons.1 hs).1 M hM2) hR hR' (g1.trans hM1) e2 g3 (g2.trans hM1) hn
theorem len_le_of_lt:∀ (N:Nat) (l:List Nat),l.Nodup->(∀ x ∈ l,x < N)->l.length<=N
 | 0,l,_,h=>by
  cases l with
  | nil=>simp
  | cons a l=>exact absurd (h a (by simp)) (by omega)
 | N+1,l,hd,h=>by
  by_cases hm:N ∈ l
  ·have h1:=List.length_erase_of_mem hm
   have h2:=len_le_of_lt N (l.erase N) (hd.erase N) fun x hx=>by
    have h3:=h x (List.mem_of_mem_erase hx)
    have h4:x ≠ N:=fun e=>by subst e; exact hd.not_mem_erase hx
    omega
   omega
  ·have:=len_le_of_lt N l hd fun x hx=>by
    have h3:=h x hx
    have h4:x ≠ N:=fun e=>by subst e; exact hm hx
    omega
   omega
theorem pigeon {n N:Nat} {R:Nat->Nat->Prop} (h:∀ i,i < n->∃ c,c < N/\R i c) (inj:∀ i j c,i < n->j < n->R i c->R j c->i=j):n<=N:=by
 have hf:∃ f:Nat->Nat,∀ i,i < n->f i < N/\R i (f i):=by
  refine ⟨fun i=>if hi:i < n then Classical.choose (h i hi) else 0,fun i hi=>?_⟩
  simp only [hi,dif_pos]
  exact Classical.choose_spec (h i hi)
 obtain ⟨f,hf⟩:=hf
 have h1:=len_le_of_lt N ((List.range n).map f) (by
  rw [List.nodup_iff_pairwise_ne,List.pairwise_map]
  have hr:(List.range n).Pairwise (fun a b=>a < b):=List.pairwise_lt_range
  refine (List.pairwise_iff_getElem.2 fun i j hi hj hij=>?_)
  simp only [List.length_range] at hi hj
  simp only [List.getElem_range]
  intro e
  have:=inj i j (f i) hi hj (hf i hi).2 (by rw [e]; exact (hf j hj).2)
  omega) (by
  intro x hx
  obtain ⟨i,hi,rfl⟩:=List.mem_map.1 hx
  exact (hf i (List.mem_range.1 hi)).1)
 simpa using h1
theorem sq_nn (a:Int):0<=a * a:=by
 rcases Int.le_total 0 a with h|h
 ·exact Int.mul_nonneg h h
 ·exact Int.mul_nonneg_of_nonpos_of_nonpos h h
theorem nd_inj {l:List DV} (h:l.Nodup) {i j:Nat} (hi:i < l.length) (hj:j < l.length) (e:l[i]=l[j]):i=j:=by
 rw [List.nodup_iff_pairwise_ne] at h
 rcases Nat.lt_trichotomy i j with h1|h1|h1
 ·exact absurd e (List.pairwise_iff_getElem.1 h i j hi hj h1)
 ·exact h1
 ·exact absurd e.symm (List.pairwise_iff_getElem.1 h j i hj hi h1)
theorem sb_ne {a b:DV} (h:a ≠ b):sbV a b ≠ (0,0):=by
 intro e
 unfold sbV at e
 have q1:=congrArg Prod.fst e
 have q2:=congrArg Prod.snd e
 simp only at q1 q2
 exact h (Prod.ext (by omega) (by omega))
theorem dt_pos {d:DV} (h:d ≠ (0,0)):0 < dt d d:=by
 unfold dt
 have h1:=sq_nn d.1
 have h2:=sq_nn d.2
 by_cases e1:d.1=0
 ·by_cases e2:d.2=0
  ·exact absurd (Prod.ext e1 e2) h
  ·have:d.2 * d.2 ≠ 0:=fun h=>(Int.mul_eq_zero.1 h).elim e2 e2
   omega
 ·have:d.1 * d.1 ≠ 0:=fun h=>(Int.mul_eq_zero.1 h).elim e1 e1
  omega
theorem pos_of_mul {a b c:Int} (h:a * b=c) (hb:0 < b) (hc:0<=c):0<=a:=by
 by_cases ha:0<=a
 ·exact ha
 ·have:=Int.mul_neg_of_neg_of_pos (show a < 0 by omega) hb
  omega
theorem pos_of_mul' {a b c:Int} (h:a * b=c) (hb:0 < b) (hc:0 < c):0 < a:=by
 have:=pos_of_mul h hb (Int.le_of_lt hc)
 by_cases ha:a=0
 ·subst ha; omega
 ·omega
theorem same_dir {d E c:DV} (hd:d ≠ (0,0)) (h0:crs d E=0) (h1:0 < crs E c) (h2:0<=crs d c):0 < dt d E:=by
 have hE:E ≠ (0,0):=fun h=>by subst h; unfold crs at h1; simp at h1
 have k:dt d E * crs E c=crs d c * dt E E - crs d E * dt E c:=by unfold dt crs; grind
 rw [h0,Int.zero_mul,Int.sub_zero] at k
 have n1:=pos_of_mul k h1 (Int.mul_nonneg h2 (Int.le_of_lt (dt_pos hE)))
 have k2:dt d E * dt d E+crs d E * crs d E=dt d d * dt E E:=by unfold dt crs; grind
 rw [h0,Int.mul_zero,Int.add_zero] at k2
 have n2:=Int.mul_pos (dt_pos hd) (dt_pos hE)
 by_cases hz:dt d E=0
 ·rw [hz,Int.mul_zero] at k2; omega
 ·omega
theorem nxt_cases {n i:Nat} (hi:i < n):(nxt n i).toNat=(if i+1 < n then i+1 else 0):=by
 split
 ·exact nxt_lt (by assumption)
 ·exact nxt_end (by omega)
theorem prev_of {n i:Nat} (hi:i < n):∃ h,h < n/\(nxt n h).toNat=i:=by
 by_cases h0:i=0
 ·exact ⟨n - 1,by omega,by rw [nxt_end (by omega),h0]⟩
 ·exact ⟨i - 1,by omega,by rw [nxt_lt (by omega)]; omega⟩
theorem corn {l:List DV} (h:polyP l) {i k:Nat} (hi:i < l.length) (hk:k < l.length) (h1:k ≠ i) (h2:k ≠ (nxt l.length i).toNat):0 < trn (nth (t:=tVec) l i) (nth (t:=tVec) l (nxt l.length i).toNat) (nth (t:=tVec) l k) :=
 h.2.2 i k hi hk (by omega) (by have:=nxt_rng (n:=l.length) (i:=i) (by omega); omega)
theorem third (n i j:Nat) (hn:3<=n):∃ k,k < n/\k ≠ i/\k ≠ j:=by
 by_cases h0:i ≠ 0/\j ≠ 0
 ·exact ⟨0,by omega,by omega,by omega⟩
 ·by_cases h1:i ≠ 1/\j ≠ 1
  ·exact ⟨1,by omega,by omega,by omega⟩
  ·exact ⟨2,by omega,by omega,by omega⟩
def edgV (l:List DV) (t:Nat):DV:=sbV (nth (t:=tVec) l (nxt l.length t).toNat) (nth (t:=tVec) l t)
theorem supp_edge {l:List DV} (h:polyP l) {d:DV} (hd:d ≠ (0,0)) {i j:Nat} (hi:i < l.length) (hj:j < l.length) (hne:nth (t:=tVec) l i ≠ nth (t:=tVec) l j) (hall:∀ x ∈ l,0<=crs d (sbV x (nth (t:=tVec) l i)))
  (hz:crs d (sbV (nth (t:=tVec) l j) (nth (t:=tVec) l i))=0):∃ t,t < l.length/\crs d (edgV l t)=0/\0 < dt d (edgV l t):=by
 have h3:3<=l.length:=by have:=h.1.1; omega
 have hij:i ≠ j:=fun e=>hne (by rw [e])
 by_cases c1:j=(nxt l.length i).toNat
 ·obtain ⟨k,hk,hk1,hk2⟩:=third l.length i j h3
  have ht:=corn h hi hk hk1 (by rw [<-c1]; exact hk2)
  have he:edgV l i=sbV (nth (t:=tVec) l j) (nth (t:=tVec) l i):=by unfold edgV; rw [<-c1]
  refine ⟨i,hi,by rw [he]; exact hz,?_⟩
  rw [he]
  rw [trn_crs,<-c1] at ht
  exact same_dir hd hz ht (hall _ (nth_mem hk))
 ·by_cases c2:i=(nxt l.length j).toNat
  ·obtain ⟨k,hk,hk1,hk2⟩:=third l.length i j h3
   have ht:=corn h hj hk hk2 (by rw [<-c2]; exact hk1)
   have he:edgV l j=sbV (nth (t:=tVec) l i) (nth (t:=tVec) l j):=by unfold edgV; rw [<-c2]
   have hz':crs d (sbV (nth (t:=tVec) l i) (nth (t:=tVec) l j))=0:=by
    have:crs d (sbV (nth (t:=tVec) l i) (nth (t:=tVec) l j))=- crs d (sbV (nth (t:=tVec) l j) (nth (t:=tVec) l i)):=by unfold crs sbV; grind
    rw [this,hz]; rfl
   refine ⟨j,hj,by rw [he]; exact hz',?_⟩
   rw [he]
   rw [trn_crs,<-c2] at ht
   refine same_dir hd hz' ht ?_
   have h4:=hall _ (nth_mem hk)
   have:crs d (sbV (nth (t:=tVec) l k) (nth (t:=tVec) l j))=crs d (sbV (nth (t:=tVec) l k) (nth (t:=tVec) l i)) - crs d (sbV (nth (t:=tVec) l j) (nth (t:=tVec) l i)):=by unfold crs sbV; grind
   omega
  ·exfalso
   obtain ⟨g,hg,hgi⟩:=prev_of hi
   have hr:=nxt_rng (n:=l.length) (i:=i) (by omega)
   have hn:(nxt l.length i).toNat < l.length:=by omega
   have t1:=corn h hi hj (Ne.symm hij) c1
   have t2:=corn h hg hj (fun e=>c2 (by rw [e]; exact hgi.symm)) (by rw [hgi]; exact Ne.symm hij)
   rw [hgi] at t2
   have a1:=hall _ (nth_mem hn)
   have a2:=hall _ (nth_mem hg)
   generalize nth (t:=tVec) l i=p at *
   generalize nth (t:=tVec) l j=q at *
   generalize nth (t:=tVec) l (nxt l.length i).toNat=s at *
   generalize nth (t:=tVec) l g=u at *
   have k1:trn p s q * dt d d=- (crs d (sbV s p) * dt d (sbV q p))+dt (sbV s p) d * crs d (sbV q p):=by unfold trn dt crs sbV; grind
   have k2:trn u p q * dt d d=crs d (sbV u p) * dt d (sbV q p) - crs d (sbV q p) * dt d (sbV u p):=by unfold trn dt crs sbV; grind
   rw [hz,Int.mul_zero,Int.add_zero] at k1
   rw [hz,Int.zero_mul,Int.sub_zero] at k2
   have m1:=Int.mul_pos t1 (dt_pos hd)
   have m2:=Int.mul_pos t2 (dt_pos hd)
   have n1:dt d (sbV q p) < 0:=by
    by_cases hq:dt d (sbV q p) < 0
    ·exact hq
    ·have:=Int.mul_nonneg a1 (show 0<=dt d (sbV q p) by omega)
     omega
   have n2:0 < dt d (sbV q p):=by
    by_cases hq:0 < dt d (sbV q p)
    ·exact hq
    ·have:=Int.mul_nonneg a2 (show 0<=- dt d (sbV q p) by omega)
     rw [Int.mul_neg] at this
     omega
   omega
def smV (a b:List DV):List DV:=a.flatMap fun p=>b.map (addV p)
theorem smV_mem {a b:List DV} {x:DV}:x ∈ smV a b ↔ ∃ p ∈ a,∃ q ∈ b,addV p q=x:=by
 unfold smV
 simp only [List.mem_flatMap,List.mem_map]
theorem dir_inj {P:DV->Prop} {H:List DV} (hH:Cvx P H) {i j:Nat} (hi:i < H.length) (hj:j < H.length) {E:DV} (h1:crs (edgV H i) E=0) (h2:0 < dt (edgV H i) E) (h3:crs (edgV H j) E=0) (h4:0 < dt (edgV H j) E):i=j:=by
 have hE:0 < dt E E:=dt_pos fun h=>by subst h; unfold dt at h2; simp at h2
 have k1:crs (edgV H i) (edgV H j) * dt E E=crs (edgV H i) E * dt E (edgV H j) - crs (edgV H j) E * dt E (edgV H i):=by unfold dt crs; grind
 rw [h1,h3,Int.zero_mul,Int.zero_mul,Int.sub_zero] at k1
 have z:crs (edgV H i) (edgV H j)=0:=by
  rcases Int.mul_eq_zero.1 k1 with h|h
  ·exact h
  ·omega
 have k2:dt (edgV H i) (edgV H j) * dt E E=dt (edgV H i) E * dt (edgV H j) E+crs (edgV H i) E * crs (edgV H j) E:=by unfold dt crs; grind
 rw [h1,Int.zero_mul,Int.add_zero] at k2
 have p:=pos_of_mul' k2 hE (Int.mul_pos h2 h4)
 by_cases hij:i=j
 ·exact hij
 ·exfalso
  have ri:=nxt_rng (n:=H.length) (i:=i) (by omega)
  have rj:=nxt_rng (n:=H.length) (i:=j) (by omega)
  have mi:nth (t:=tVec) H i ∈ H:=nth_mem hi
  have mj:nth (t:=tVec) H j ∈ H:=nth_mem hj
  have ndI:nth (t:=tVec) H i ≠ nth (t:=tVec) H j:=by
   rw [nth_lt hi,nth_lt hj]
   intro e
   exact hij (nd_inj hH.nodup _ _ e)
  have l1:=hH.low i hi _ (hH.sub _ mj)
  have l2:=hH.low j hj _ (hH.sub _ mi)
  have s1:=hH.str i hi _ mj
  have s2:=hH.str j hj _ mi
  unfold edgV at z p h1 h2 h3 h4
  have dd1:0 < dt (sbV (nth (t:=tVec) H (nxt H.length i).toNat) (nth (t:=tVec) H i)) (sbV (nth (t:=tVec) H (nxt H.length i).toNat) (nth (t:=tVec) H i)):=dt_pos fun h=>by rw [h] at h2; unfold dt at h2; simp at h2
  generalize nth (t:=tVec) H i=a at *
  generalize nth (t:=tVec) H j=b at *
  generalize nth (t:=tVec) H (nxt H.length i).toNat=a' at *
  generalize nth (t:=tVec) H (nxt H.length j).toNat=b' at *
  rw [trn_crs] at l1 l2
  have k3:crs (sbV b' b) (sbV a b) * dt (sbV a' a) (sbV a' a)=- (crs (sbV a' a) (sbV b a) * dt (sbV a' a) (sbV b' b)) - crs (sbV a' a) (sbV b' b) * dt (sbV a' a) (sbV a b):=by unfold dt crs sbV; grind
  rw [z,Int.zero_mul,Int.sub_zero] at k3
  have q1:=Int.mul_nonneg l2 (Int.le_of_lt dd1)
  have q2:=Int.mul_nonneg l1 (Int.le_of_lt p)
  have q3:crs (sbV a' a) (sbV b a) * dt (sbV a' a) (sbV b' b)=0:=by omega
  have q4:crs (sbV a' a) (sbV b a)=0:=by
   rcases Int.mul_eq_zero.1 q3 with h|h
   ·exact h
   ·omega
  have q5:crs (sbV b' b) (sbV a b)=0:=by
   have:crs (sbV b' b) (sbV a b) * dt (sbV a' a) (sbV a' a)=0:=by rw [k3,q3]; rfl
   rcases Int.mul_eq_zero.1 this with h|h
   ·exact h
   ·omega
  rw [trn_crs] at s1 s2
  rcases s1 with h|h|h
  ·exact ndI h.symm
  ·rcases s2 with h'|h'|h'
   ·exact ndI h'
   ·subst h h'
    have:dt (sbV b a) (sbV a b)=- dt (sbV b a) (sbV b a):=by unfold dt sbV; grind
    omega
   ·omega
  ·omega
theorem mink_le {a b H:List DV} (ha:polyP a) (hb:polyP b) (hH:Cvx (fun p=>p ∈ smV a b) H):H.length<=a.length+b.length:=by
 refine pigeon (R:=fun i c=>(c < a.length/\crs (edgV H i) (edgV a c)=0/\0 < dt (edgV H i) (edgV a c))\/(a.length<=c/\crs (edgV H i) (edgV b (c - a.length))=0/\0 < dt (edgV H i) (edgV b (c - a.length)))) ?_ ?_
 ·intro i hi
  have ri:=nxt_rng (n:=H.length) (i:=i) (by omega)
  have hn:(nxt H.length i).toNat < H.length:=by omega
  have h3:=hH.three
  have hlow:=hH.low i hi
  have nd:nth (t:=tVec) H (nxt H.length i).toNat ≠ nth (t:=tVec) H i:=by
   rw [nth_lt hn,nth_lt hi]
   intro e
   have e2:=nd_inj hH.nodup _ _ e
   have:=nxt_cases hi
   split at this<;>omega
  obtain ⟨p,hp,q,hq,e1⟩:=smV_mem.1 (hH.sub _ (nth_mem hi))
  obtain ⟨p',hp',q',hq',e2⟩:=smV_mem.1 (hH.sub _ (nth_mem hn))
  have hdd:edgV H i=sbV (nth (t:=tVec) H (nxt H.length i).toNat) (nth (t:=tVec) H i):=rfl
  have hd0:edgV H i ≠ (0,0):=by
   exact sb_ne nd
  have A:∀ x ∈ a,0<=crs (edgV H i) (sbV x p):=fun x hx=>by
   have h:=hlow (addV x q) (smV_mem.2 ⟨x,hx,q,hq,rfl⟩)
   rw [trn_crs,<-hdd,<-e1] at h
   have:sbV (addV x q) (addV p q)=sbV x p:=by unfold sbV addV; exact Prod.ext (by simp only; omega) (by simp only; omega)
   rw [this] at h; exact h
  have B:∀ y ∈ b,0<=crs (edgV H i) (sbV y q):=fun y hy=>by
   have h:=hlow (addV p y) (smV_mem.2 ⟨p,hp,y,hy,rfl⟩)
   rw [trn_crs,<-hdd,<-e1] at h
   have:sbV (addV p y) (addV p q)=sbV y q:=by unfold sbV addV; exact Prod.ext (by simp only; omega) (by simp only; omega)
   rw [this] at h; exact h
  have hz:crs (edgV H i) (sbV p' p)+crs (edgV H i) (sbV q' q)=0:=by
   have:edgV H i=(p'.1 - p.1+(q'.1 - q.1),p'.2 - p.2+(q'.2 - q.2)):=by
    rw [hdd,<-e1,<-e2]; unfold sbV addV; exact Prod.ext (by simp only; omega) (by simp only; omega)
   rw [this]; unfold crs sbV; grind
  have hA:=A p' hp'
  have hB:=B q' hq'
  have zA:crs (edgV H i) (sbV p' p)=0:=by omega
  have zB:crs (edgV H i) (sbV q' q)=0:=by omega
  obtain ⟨i1,hi1,f1⟩:=List.getElem_of_mem hp
  obtain ⟨i2,hi2,f2⟩:=List.getElem_of_mem hp'
  obtain ⟨j1,hj1,g1⟩:=List.getElem_of_mem hq
  obtain ⟨j2,hj2,g2⟩:=List.getElem_of_mem hq'
  rw [<-nth_lt (t:=tVec) hi1] at f1
  rw [<-nth_lt (t:=tVec) hi2] at f2
  rw [<-nth_lt (t:=tVec) hj1] at g1
  rw [<-nth_lt (t:=tVec) hj2] at g2
  by_cases hpp:p=p'
  ·have hqq:q ≠ q':=fun h=>nd (by rw [<-e1,<-e2,hpp,h])
   obtain ⟨t,ht,h1,h2⟩:=supp_edge hb hd0 hj1 hj2 (by rw [g1,g2]; exact hqq) (by rw [g1]; exact B) (by rw [g1,g2]; exact zB)
   exact ⟨a.length+t,by omega,.inr ⟨by omega,by rw [show a.length+t - a.length=t by omega]; exact ⟨h1,h2⟩⟩⟩
  ·obtain ⟨t,ht,h1,h2⟩:=supp_edge ha hd0 hi1 hi2 (by rw [f1,f2]; exact hpp) (by rw [f1]; exact A) (by rw [f1,f2]; exact zA)
   exact ⟨t,by omega,.inl ⟨ht,h1,h2⟩⟩
 ·rintro i j c hi hj (⟨_,h1,h2⟩|⟨hc,h1,h2⟩) (⟨_,h3,h4⟩|⟨hc',h3,h4⟩)
  ·exact dir_inj hH hi hj h1 h2 h3 h4
  ·omega
  ·omega
  ·exact dir_inj hH hi hj h1 h2 h3 h4
theorem hullD_of {l:List DV} (hn:∃ a ∈ l,∃ b ∈ l,∃ c ∈ l,trn a b c ≠ 0):Cvx (fun p=>p ∈ l) (hullD l):=by
 have hn':∃ a ∈ srtD l,∃ b ∈ srtD l,∃ c ∈ srtD l,trn a b c ≠ 0:=by
  obtain ⟨a,ha,b,hb,c,hc,h⟩:=hn
  exact ⟨a,srtD_mem.2 ha,b,srtD_mem.2 hb,c,srtD_mem.2 hc,h⟩
 have hC:=hull_cvx (srtD_srt l) hn'
 have h2:¬ (srtD l).length < 2:=by
  obtain ⟨a,ha,b,hb,c,hc,h⟩:=hn'
  intro hlt
  match hs:srtD l,ha,hb,hc with
  | [x],ha,hb,hc =>
   simp at ha hb hc
   subst ha hb hc
   exact h (trn_aa _ _)
  | _ :: _ :: _,_,_,_=>rw [hs] at hlt; simp at hlt; omega
 unfold hullD
 rw [if_neg h2]
 exact ⟨hC.three,hC.nodup,hC.str,fun i hi p hp=>hC.low i hi p (srtD_mem.2 hp),fun x hx=>srtD_mem.1 (hC.sub x hx)⟩
theorem trn_addV (c:DV) (x y z:DV):trn (addV x c) (addV y c) (addV z c)=trn x y z:=by unfold trn addV; grind
theorem sum_poly {a b:List DV} (ha:polyP a) (hb:polyP b) (hl:a.length+b.length<=16) (hs:∀ x ∈ smV a b,okV x=true):polyP (hullD (smV a b)):=by
 have la:3<=a.length:=by have:=ha.1.1; omega
 have lb:3<=b.length:=by have:=hb.1.1; omega
 have hC:=hullD_of (l:=smV a b) (by
  have m0:nth (t:=tVec) b 0 ∈ b:=nth_mem (by omega)
  have r0:(nxt a.length 0).toNat=1:=nxt_lt (by omega)
  refine ⟨_,smV_mem.2 ⟨_,nth_mem (l:=a) (i:=0) (by omega),_,m0,rfl⟩,_,smV_mem.2 ⟨_,nth_mem (l:=a) (i:=1) (by omega),_,m0,rfl⟩,_,smV_mem.2 ⟨_,nth_mem (l:=a) (i:=2) (by omega),_,m0,rfl⟩,?_⟩
  rw [trn_addV]
  have:=corn ha (i:=0) (k:=2) (by omega) (by omega) (by omega) (by omega)
  rw [r0] at this
  omega)
 have hle:=mink_le ha hb hC
 have h3:=hC.three
 refine ⟨⟨by omega,by omega⟩,fun v hv=>hs v (hC.sub v hv),fun i k hi hk n1 n2=>?_⟩
 have ri:=nxt_rng (n:=(hullD (smV a b)).length) (i:=i) (by omega)
 have hn:(nxt (hullD (smV a b)).length i).toNat < (hullD (smV a b)).length:=by omega
 have nd:∀ {j:Nat} (hj:j < (hullD (smV a b)).length),k ≠ j->nth (t:=tVec) (hullD (smV a b)) k ≠ nth (t:=tVec) (hullD (smV a b)) j:=by
  intro j hj hkj
  rw [nth_lt hk,nth_lt hj]
  intro e
  exact hkj (nd_inj hC.nodup _ _ e)
 rcases hC.str i hi _ (nth_mem hk) with h|h|h
 ·exact absurd h (nd hi (by omega))
 ·exact absurd h (nd hn (by omega))
 ·exact h
theorem polyB_p {l:List DV} (h:polyB l=true):polyP l:=@of_decide_eq_true _ (Classical.propDecidable _) h
theorem poly_map {l:List DV} {f:DV->DV} (h:polyP l) (hok:∀ v ∈ l,okV (f v)=true) (ht:∀ a b c,trn (f a) (f b) (f c)=trn a b c):polyP (l.map f):=by
 have hn:∀ {k},k < l.length->nth (t:=tVec) (l.map f) k=f (nth (t:=tVec) l k):=fun {k} hk=>by
  rw [nth_lt (t:=tVec) hk,nth_lt (t:=tVec) (l:=l.map f) (by rw [List.length_map]; exact hk),List.getElem_map]
 refine ⟨by rw [List.length_map]; exact h.1,fun v hv=>?_,fun i k hi hk=>?_⟩
 ·obtain ⟨u,hu,rfl⟩:=List.mem_map.1 hv
  exact hok u hu
 ·rw [List.length_map] at hi hk
  have ri:=nxt_rng (n:=l.length) (i:=i) (by omega)
  have:=h.2.2 i k hi hk
  unfold cornOK at this ⊢
  rw [List.length_map,hn hi,hn hk,hn (by omega),ht]
  exact this
theorem trn_rot1 (a b c:DV):trn (rot1 a) (rot1 b) (rot1 c)=trn a b c:=by unfold trn rot1; grind
theorem trn_rot (a b c:DV):∀ n,trn (rotN n a) (rotN n b) (rotN n c)=trn a b c
 | 0=>rfl
 | n+1=>by
  show trn (rot1 (rotN n a)) (rot1 (rotN n b)) (rot1 (rotN n c))=_
  rw [trn_rot1,trn_rot a b c n]
theorem okV_neg {v:DV} (h:okV v=true):okV (negV v)=true:=by
 obtain ⟨h1,h2,h3,h4⟩:=okV_b h
 unfold negV
 exact okV_of (by simp only; omega) (by simp only; omega) (by simp only; omega) (by simp only; omega)
theorem poly_neg {l:List DV} (h:polyP l):polyP (l.map negV):=poly_map h (fun v hv=>okV_neg (h.2.1 v hv)) trn_ng
theorem poly_rot {l:List DV} (h:polyP l) (n:Nat):polyP (l.map (rotN n)):=poly_map h (fun v hv=>okV_rot (h.2.1 v hv) n) fun a b c=>trn_rot a b c n
theorem inB_b {k:Int} {v:DV} (h:inB k v=true):-k<=v.1/\v.1<=k/\-k<=v.2/\v.2<=k:=by
 unfold inB at h
 rw [Bool.and_eq_true] at h
 exact ⟨(of_decide_eq_true h.1).1,(of_decide_eq_true h.1).2,(of_decide_eq_true h.2).1,(of_decide_eq_true h.2).2⟩
theorem inB_of {k:Int} {v:DV} (h1:-k<=v.1) (h2:v.1<=k) (h3:-k<=v.2) (h4:v.2<=k):inB k v=true:=by
 unfold inB
 rw [Bool.and_eq_true,decide_eq_true_iff,decide_eq_true_iff]
 exact ⟨⟨h1,h2⟩,h3,h4⟩
theorem inB_rot {k:Int} {v:DV} (h:inB k v=true):∀ n,inB k (rotN n v)=true
 | 0=>h
 | n+1=>by
  obtain ⟨b1,b2,b3,b4⟩:=inB_b (inB_rot h n)
  show inB k (rot1 (rotN n v))=true
  unfold rot1
  exact inB_of (by simp only; omega) (by simp only; omega) (by simp only; omega) (by simp only; omega)
structure SmP (k:Int) (l:List DV):Prop where
 five:l.length<=5
 poly:polyP l
 ins:∀ v ∈ l,inB k v=true
theorem smB_p {l:List DV} {k:Int} (h:smB l k=true):SmP k l:=by
 unfold smB at h
 rw [Bool.and_eq_true,Bool.and_eq_true] at h
 obtain ⟨h1,h2,h3⟩:=h
 refine ⟨by have:=of_decide_eq_true h1; omega,polyB_p h2,fun v hv=>?_⟩
 unfold allIn at h3
 rw [Bool.not_eq_true',List.any_eq_false] at h3
 have:=h3 v hv
 simpa using this
theorem SmP.rot {k:Int} {l:List DV} (h:SmP k l) (n:Nat):SmP k (l.map (rotN n)) :=
 ⟨by rw [List.length_map]; exact h.five,poly_rot h.poly n,fun v hv=>by obtain ⟨u,hu,rfl⟩:=List.mem_map.1 hv; exact inB_rot (h.ins u hu) n⟩
theorem SmP.neg {k:Int} {l:List DV} (h:SmP k l):SmP k (l.map negV) :=
 ⟨by rw [List.length_map]; exact h.five,poly_neg h.poly,fun v hv=>by
  obtain ⟨u,hu,rfl⟩:=List.mem_map.1 hv
  obtain ⟨b1,b2,b3,b4⟩:=inB_b (h.ins u hu)
  unfold negV
  exact inB_of (by simp only; omega) (by simp only; omega) (by simp only; omega) (by simp only; omega)⟩
theorem SmP.ok {k:Int} {l:List DV} (h:SmP k l):∀ v ∈ l,okV v=true:=h.poly.2.1
theorem SmP.sum_ok {k m:Int} {a b:List DV} (ha:SmP k a) (hb:SmP m b) (hkm:k+m<=1000):∀ x ∈ smV a b,okV x=true:=by
 intro x hx
 obtain ⟨p,hp,q,hq,rfl⟩:=smV_mem.1 hx
 obtain ⟨b1,b2,b3,b4⟩:=inB_b (ha.ins p hp)
 obtain ⟨c1,c2,c3,c4⟩:=inB_b (hb.ins q hq)
 unfold addV
 exact okV_of (by simp only; omega) (by simp only; omega) (by simp only; omega) (by simp only; omega)
theorem SmP.sum {k m:Int} {a b:List DV} (ha:SmP k a) (hb:SmP m b) (hkm:k+m<=1000):polyP (hullD (smV a b)) :=
 sum_poly ha.poly hb.poly (by have:=ha.five; have:=hb.five; omega) (ha.sum_ok hb hkm)
def smI (a b:List DV) (i:Nat):List DV:=smV (a.take i) b
theorem smI_step {a b:List DV} {i:Nat} (h:i < a.length):smI a b (i+1)=smI a b i++b.map (addV (nth (t:=tVec) a i)):=by
 unfold smI smV
 rw [List.take_succ_eq_append_getElem h,nth_lt h,List.flatMap_append]
 simp
theorem smV_len (a b:List DV):(smV a b).length=a.length * b.length:=by
 unfold smV
 induction a with
 | nil=>simp
 | cons x a ih=>rw [List.flatMap_cons,List.length_append,ih,List.length_map,List.length_cons,Nat.succ_mul]; omega
theorem smI_len {a b:List DV} {i:Nat} (h:i<=a.length):(smI a b i).length=i * b.length:=by
 unfold smI; rw [smV_len,List.length_take,Nat.min_eq_left h]
theorem smI_all {a b:List DV} {i:Nat} (h:a.length<=i):smI a b i=smV a b:=by unfold smI; rw [List.take_of_length_le h]
theorem five_mul {i n:Nat} (h1:i<=5) (h2:n<=5):i * n<=25:=Nat.mul_le_mul h1 h2
theorem SumPolygonsI_fn {k m:Int} (a b:List DV) (ha:SmP k a) (hb:SmP m b) (hkm:k+m<=1000):Fn Tryz.prog 166 [⟨.slice tVec,a⟩,⟨.slice tVec,b⟩] true [⟨.slice tVec,hullD (smV a b)⟩]:=by
 have c1:=implIsPolygon_fn a
 have c2:=implIsPolygon_fn b
 rw [polyB_t ha.poly] at c1
 rw [polyB_t hb.poly] at c2
 have hab:=five_mul ha.five hb.five
 have l1:=ha.five
 have l2:=hb.five
 have hab':(a.length:Int) * (b.length:Int)<=25:=by exact_mod_cast hab
 have hab0:(0:Int)<=(a.length:Int) * (b.length:Int):=Int.mul_nonneg (by omega) (by omega)
 have d0:=decide_eq_false (p:=(a.length:Int) * (b.length:Int) > 64) (by omega)
 refine fe Tryz.func166 Tryz.ntmps166 Tryz.results166 fun hwf=>?_
 try simp (maxSteps:=9^9) only[go_sem]
 repeat refine AI ?_
 refine cw c1 ?_
 try simp (maxSteps:=9^9) only[go_sem]
 repeat refine AI ?_
 refine cw c2 ?_
 try simp (maxSteps:=9^9) only[go_sem]
 repeat refine AI ?_
 try simp (maxSteps:=9^9) only[go_sem,d0]
 refine LoopG.intro _ _ _ (fun i:Nat=>⟨[(1,.sl tVec b),(5,.row 0 0),(26,.sl tVec a),(27,.sc (.int .i64 a.length)),(28,.sc (.int .i64 i))],[(0,.row 24 tVec 0 true (smI a b i))]⟩) (fun i=>i<=a.length) (fun i=>a.length - i) 0 ?_ (Nat.zero_le _) ?_
 ·exact WK
 ·rintro i hi
  try simp (maxSteps:=9^9) only[go_sem]
  refine CondW_dec (fun hA=>?_) (fun hA=>?_)
  ·have hlt:i < a.length:=by omega
   have hml:=smI_len (a:=a) (b:=b) (i:=i) (by omega)
   have h25:=five_mul (i:=i) (n:=b.length) (by omega) l2
   have e:=smI_step (b:=b) hlt
   have c3:=moved_fn b (nth (t:=tVec) a i) (ha.ok _ (nth_mem hlt)) hb.ok (by omega)
   have hmm:(b.map (addV (nth (t:=tVec) a i))).length=b.length:=List.length_map ..
   try simp (maxSteps:=9^9) only[go_sem]
   repeat refine AI ?_
   repeat refine AI ?_
   refine cw c3 ?_
   try simp (maxSteps:=9^9) only[go_sem]
   try simp (maxSteps:=9^9) only[go_sem,hml,hmm]
   repeat refine AI ?_
   refine LoopK.mk (i+1) ?_ (by omega) (by omega)
   rw [e]
   exact WK
  ·rw [smI_all (by omega)]
   have hp:=ha.sum hb hkm
   have hsl:=smV_len a b
   have pos:0 < (smV a b).length:=by
    rw [hsl]
    have:=ha.poly.1.1
    have:=hb.poly.1.1
    exact Nat.mul_pos (by omega) (by omega)
   have c4:=HullOf_fn (smV a b) (ha.sum_ok hb hkm) pos (by omega)
   have c5:=implIsPolygon_fn (hullD (smV a b))
   rw [polyB_t hp] at c5
   try simp (maxSteps:=9^9) only[go_sem]
   repeat refine AI ?_
   refine cw c4 ?_
   try simp (maxSteps:=9^9) only[go_sem]
   repeat refine AI ?_
   refine cw c5 ?_
   try simp (maxSteps:=9^9) only[go_sem]
def obsD (r o:List DV):List DV:=hullD (smV o (r.map negV))
theorem ObstacleForI_fn {k m:Int} (r o:List DV) (hr:SmP k r) (ho:SmP m o) (hkm:m+k<=1000):Fn Tryz.prog 124 [⟨.slice tVec,r⟩,⟨.slice tVec,o⟩] true [⟨.slice tVec,obsD r o⟩]:=by
 have c1:=NegatePolygonI_fn r hr.ok (by have:=hr.five; omega)
 have c2:=SumPolygonsI_fn o (r.map negV) ho hr.neg hkm
 unfold obsD
 refine fe Tryz.func124 Tryz.ntmps124 Tryz.results124 fun hwf=>?_
 try simp (maxSteps:=9^9) only[go_sem]
 repeat refine AI ?_
 refine cw c1 ?_
 try simp (maxSteps:=9^9) only[go_sem]
 repeat refine AI ?_
 refine cw c2 ?_
 try simp (maxSteps:=9^9) only[go_sem]
theorem obs_poly {k m:Int} {r o:List DV} (hr:SmP k r) (ho:SmP m o) (hkm:m+k<=1000):polyP (obsD r o):=ho.sum hr.neg hkm
abbrev DSc:Type:=tScene.den
noncomputable def obsOK (l:List (List DV)):Bool:=!(l.any fun x=>!smB x 200)
noncomputable def sceneB (s:DSc):Bool:=allIn 200 [s.1,s.2.1] && (decide (s.1.1 < s.2.1.1) && (decide (s.1.2 < s.2.1.2) && (smB s.2.2.1 20 && (decide ((s.2.2.2.1.length:Int)<=4) && (obsOK s.2.2.2.1 && (decide ((s.2.2.2.2.length:Int)<=3) && allIn 200 s.2.2.2.2))))))
theorem indexFunc_vs_fn (F:FuncId) (p:(List DV)->Bool) (l:List (List DV)) (hF:∀ y ∈ l,Fn Tryz.prog F [⟨(.slice tVec),y⟩] false [⟨.bool,p y⟩]):Fn Tryz.prog 80 [⟨.slice (.slice tVec),l⟩,⟨.cst (.fn F),()⟩] false [⟨.int,ixf (t:=(.slice tVec)) p l⟩]:=by
 refine fe Tryz.func80 Tryz.ntmps80 Tryz.results80 fun hwf=>?_
 have hl:l.length<=9223372036854775807:=(hwf ⟨.slice (.slice tVec),l⟩ (by simp)).1
 try simp (maxSteps:=9^9) only[go_sem]
 refine LoopG.intro _ _ _ (fun i:Nat=>⟨[(0,.sl (.slice tVec) l),(1,.sc (.func (.func F) #[] #[])),(7,.sc (.int .i64 l.length)),(8,.sc (.int .i64 i))],[]⟩) (fun i=>∀ j < i,j < l.length->p (nth (t:=(.slice tVec)) l j)=false) (fun i=>l.length - i) 0 ?_ (fun j h=>by simp at h) ?_
 ·exact WK
 ·rintro i h2
  try simp (maxSteps:=9^9) only[go_sem]
  refine CondW_dec (fun h3=>?_) (fun h3=>?_)
  ·have c1:=hF (nth (t:=(.slice tVec)) l i) (nth_memT (t:=(.slice tVec)) (by omega))
   try simp (maxSteps:=9^9) only[go_sem]
   repeat refine AI ?_
   repeat refine AI ?_
   refine cw c1 ?_
   try simp (maxSteps:=9^9) only[go_sem]
   refine CondW_b (fun h4=>?_) (fun h4=>?_)
   ·try simp (maxSteps:=9^9) only[go_sem]
    exact (ixf_at (by omega) h4 (fun j hj=>h2 j hj (by omega))).symm
   ·try simp (maxSteps:=9^9) only[go_sem]
    repeat refine AI ?_
    refine LoopK.mk (i+1) ?_ (fun j hj hl=>?_) (by omega)
    ·exact WK
    ·by_cases hj2:j < i
     ·exact h2 j hj2 hl
     ·rw [show j=i by omega]; exact h4
  ·try simp (maxSteps:=9^9) only[go_sem]
   exact (ixf_none fun j hj=>h2 j (by omega) hj).symm
theorem containsFunc_vs_fn (F:FuncId) (p:(List DV)->Bool) (l:List (List DV)) (hF:∀ y ∈ l,Fn Tryz.prog F [⟨(.slice tVec),y⟩] false [⟨.bool,p y⟩]):Fn Tryz.prog 39 [⟨.slice (.slice tVec),l⟩,⟨.cst (.fn F),()⟩] false [⟨.bool,l.any p⟩]:=by
 have c1:=indexFunc_vs_fn F p l hF
 refine fe Tryz.func39 Tryz.ntmps39 Tryz.results39 fun hwf=>?_
 try simp (maxSteps:=9^9) only[go_sem]
 repeat refine AI ?_
 refine cw c1 ?_
 try simp (maxSteps:=9^9) only[go_sem]
 exact ixf_any
theorem isValidSceneC_fn (l:List DV):Fn Tryz.prog 40 [⟨.slice tVec,l⟩] false [⟨.bool,!smB l 200⟩]:=by
 have c1:=isSmall_fn l 200 (by decide)
 refine fe Tryz.func40 Tryz.ntmps40 Tryz.results40 fun hwf=>?_
 try simp (maxSteps:=9^9) only[go_sem]
 repeat refine AI ?_
 refine cw c1 ?_
 try simp (maxSteps:=9^9) only[go_sem]
 all_goals repeat refine AI ?_
 all_goals first|kernel_rfl|omega|rfl
set_option maxHeartbeats 2000000 in
theorem IsValidSceneI_fn' (a1 a2 b1 b2:Int) (r:List DV) (ob:List (List DV)) (tb:List DV):Fn Tryz.prog 13 [⟨tScene,((a1,a2),(b1,b2),r,ob,tb)⟩] false [⟨.bool,sceneB ((a1,a2),(b1,b2),r,ob,tb)⟩]:=by
 have c1:Fn Tryz.prog 37 [⟨.int,200⟩,⟨.slice tVec,[(a1,a2),(b1,b2)]⟩] false [⟨.bool,allIn 200 [(a1,a2),(b1,b2)]⟩]:=areIn_fn 200 (by decide) _
 have c4:=isSmall_fn r 20 (by decide)
 have c6:=containsFunc_vs_fn 40 (fun x=>!smB x 200) ob (fun y _=>isValidSceneC_fn y)
 have c8:Fn Tryz.prog 37 [⟨.int,200⟩,⟨.slice tVec,tb⟩] false [⟨.bool,allIn 200 tb⟩]:=areIn_fn 200 (by decide) _
 unfold sceneB obsOK
 simp only
 cases h1:allIn 200 [(a1,a2),(b1,b2)]<;>rw [h1] at c1
 ·skip
  refine fe Tryz.func13 Tryz.ntmps13 Tryz.results13 fun hwf=>?_
  try simp (maxSteps:=9^9) only[go_sem]
  repeat refine AI ?_
  repeat refine AI ?_
  refine cw c1 ?_
  try simp (maxSteps:=9^9) only[go_sem]
  repeat refine AI ?_
  all_goals repeat refine AI ?_
  all_goals first|kernel_rfl|omega|rfl
 by_cases h2:a1 < b1
 rotate_left
 ·rw [decide_eq_false h2]
  have d2:=decide_eq_true (p:=a1 ≥ b1) (by omega)
  refine fe Tryz.func13 Tryz.ntmps13 Tryz.results13 fun hwf=>?_
  try simp (maxSteps:=9^9) only[go_sem]
  repeat refine AI ?_
  repeat refine AI ?_
  refine cw c1 ?_
  try simp (maxSteps:=9^9) only[go_sem]
  repeat refine AI ?_
  try simp (maxSteps:=9^9) only[go_sem,d2]
  repeat refine AI ?_
  all_goals repeat refine AI ?_
  all_goals first|kernel_rfl|omega|rfl
 rw [decide_eq_true h2]
 have d2:=decide_eq_false (p:=a1 ≥ b1) (by omega)
 by_cases h3:a2 < b2
 rotate_left
 ·rw [decide_eq_false h3]
  have d3:=decide_eq_true (p:=a2 ≥ b2) (by omega)
  refine fe Tryz.func13 Tryz.ntmps13 Tryz.results13 fun hwf=>?_
  try simp (maxSteps:=9^9) only[go_sem]
  repeat refine AI ?_
  repeat refine AI ?_
  refine cw c1 ?_
  try simp (maxSteps:=9^9) only[go_sem]
  repeat refine AI ?_
  try simp (maxSteps:=9^9) only[go_sem,d2]
  repeat refine AI ?_
  try simp (maxSteps:=9^9) only[go_sem,d3]
  repeat refine AI ?_
  all_goals repeat refine AI ?_
  all_goals first|kernel_rfl|omega|rfl
 rw [decide_eq_true h3]
 have d3:=decide_eq_false (p:=a2 ≥ b2) (by omega)
 cases h4:smB r 20<;>rw [h4] at c4
 ·skip
  refine fe Tryz.func13 Tryz.ntmps13 Tryz.results13 fun hwf=>?_
  try simp (maxSteps:=9^9) only[go_sem]
  repeat refine AI ?_
  repeat refine AI ?_
  refine cw c1 ?_
  try simp (maxSteps:=9^9) only[go_sem]
  repeat refine AI ?_
  try simp (maxSteps:=9^9) only[go_sem,d2]
  repeat refine AI ?_
  try simp (maxSteps:=9^9) only[go_sem,d3]
  repeat refine AI ?_
  repeat refine AI ?_
  refine cw c4 ?_
  try simp (maxSteps:=9^9) only[go_sem]
  repeat refine AI ?_
  all_goals repeat refine AI ?_
  all_goals first|kernel_rfl|omega|rfl
 by_cases h5:(ob.length:Int)<=4
 rotate_left
 ·rw [decide_eq_false h5]
  have d5:=decide_eq_true (p:=(ob.length:Int) > 4) (by omega)
  refine fe Tryz.func13 Tryz.ntmps13 Tryz.results13 fun hwf=>?_
  try simp (maxSteps:=9^9) only[go_sem]
  repeat refine AI ?_
  repeat refine AI ?_
  refine cw c1 ?_
  try simp (maxSteps:=9^9) only[go_sem]
  repeat refine AI ?_
  try simp (maxSteps:=9^9) only[go_sem,d2]
  repeat refine AI ?_
  try simp (maxSteps:=9^9) only[go_sem,d3]
  repeat refine AI ?_
  repeat refine AI ?_
  refine cw c4 ?_
  try simp (maxSteps:=9^9) only[go_sem]
  repeat refine AI ?_
  try simp (maxSteps:=9^9) only[go_sem,d5]
  repeat refine AI ?_
  all_goals repeat refine AI ?_
  all_goals first|kernel_rfl|omega|rfl
 rw [decide_eq_true h5]
 have d5:=decide_eq_false (p:=(ob.length:Int) > 4) (by omega)
 cases h6:ob.any fun x=>!smB x 200<;>rw [h6] at c6
 rotate_left
 ·skip
  refine fe Tryz.func13 Tryz.ntmps13 Tryz.results13 fun hwf=>?_
  try simp (maxSteps:=9^9) only[go_sem]
  repeat refine AI ?_
  repeat refine AI ?_
  refine cw c1 ?_
  try simp (maxSteps:=9^9) only[go_sem]
  repeat refine AI ?_
  try simp (maxSteps:=9^9) only[go_sem,d2]
  repeat refine AI ?_
  try simp (maxSteps:=9^9) only[go_sem,d3]
  repeat refine AI ?_
  repeat refine AI ?_
  refine cw c4 ?_
  try simp (maxSteps:=9^9) only[go_sem]
  repeat refine AI ?_
  try simp (maxSteps:=9^9) only[go_sem,d5]
  repeat refine AI ?_
  repeat refine AI ?_
  refine cw c6 ?_
  try simp (maxSteps:=9^9) only[go_sem]
  repeat refine AI ?_
  all_goals repeat refine AI ?_
  all_goals first|kernel_rfl|omega|rfl
 by_cases h7:(tb.length:Int)<=3
 rotate_left
 ·rw [decide_eq_false h7]
  have d7:=decide_eq_false (p:=(tb.length:Int)<=3) (by omega)
  refine fe Tryz.func13 Tryz.ntmps13 Tryz.results13 fun hwf=>?_
  try simp (maxSteps:=9^9) only[go_sem]
  repeat refine AI ?_
  repeat refine AI ?_
  refine cw c1 ?_
  try simp (maxSteps:=9^9) only[go_sem]
  repeat refine AI ?_
  try simp (maxSteps:=9^9) only[go_sem,d2]
  repeat refine AI ?_
  try simp (maxSteps:=9^9) only[go_sem,d3]
  repeat refine AI ?_
  repeat refine AI ?_
  refine cw c4 ?_
  try simp (maxSteps:=9^9) only[go_sem]
  repeat refine AI ?_
  try simp (maxSteps:=9^9) only[go_sem,d5]
  repeat refine AI ?_
  repeat refine AI ?_
  refine cw c6 ?_
  try simp (maxSteps:=9^9) only[go_sem]
  repeat refine AI ?_
  try simp (maxSteps:=9^9) only[go_sem,d7]
  repeat refine AI ?_
  all_goals repeat refine AI ?_
  all_goals first|kernel_rfl|omega|rfl
 rw [decide_eq_true h7]
 have d7:=decide_eq_true (p:=(tb.length:Int)<=3) (by omega)
 cases h8:allIn 200 tb<;>rw [h8] at c8
 ·skip
  refine fe Tryz.func13 Tryz.ntmps13 Tryz.results13 fun hwf=>?_
  try simp (maxSteps:=9^9) only[go_sem]
  repeat refine AI ?_
  repeat refine AI ?_
  refine cw c1 ?_
  try simp (maxSteps:=9^9) only[go_sem]
  repeat refine AI ?_
  try simp (maxSteps:=9^9) only[go_sem,d2]
  repeat refine AI ?_
  try simp (maxSteps:=9^9) only[go_sem,d3]
  repeat refine AI ?_
  repeat refine AI ?_
  refine cw c4 ?_
  try simp (maxSteps:=9^9) only[go_sem]
  repeat refine AI ?_
  try simp (maxSteps:=9^9) only[go_sem,d5]
  repeat refine AI ?_
  repeat refine AI ?_
  refine cw c6 ?_
  try simp (maxSteps:=9^9) only[go_sem]
  repeat refine AI ?_
  try simp (maxSteps:=9^9) only[go_sem,d7]
  repeat refine AI ?_
  repeat refine AI ?_
  refine cw c8 ?_
  try simp (maxSteps:=9^9) only[go_sem]
  repeat refine AI ?_
  all_goals repeat refine AI ?_
  all_goals first|kernel_rfl|omega|rfl
 refine fe Tryz.func13 Tryz.ntmps13 Tryz.results13 fun hwf=>?_
 try simp (maxSteps:=9^9) only[go_sem]
 repeat refine AI ?_
 repeat refine AI ?_
 refine cw c1 ?_
 try simp (maxSteps:=9^9) only[go_sem]
 repeat refine AI ?_
 try simp (maxSteps:=9^9) only[go_sem,d2]
 repeat refine AI ?_
 try simp (maxSteps:=9^9) only[go_sem,d3]
 repeat refine AI ?_
 repeat refine AI ?_
 refine cw c4 ?_
 try simp (maxSteps:=9^9) only[go_sem]
 repeat refine AI ?_
 try simp (maxSteps:=9^9) only[go_sem,d5]
 repeat refine AI ?_
 repeat refine AI ?_
 refine cw c6 ?_
 try simp (maxSteps:=9^9) only[go_sem]
 repeat refine AI ?_
 try simp (maxSteps:=9^9) only[go_sem,d7]
 repeat refine AI ?_
 repeat refine AI ?_
 refine cw c8 ?_
 try simp (maxSteps:=9^9) only[go_sem]
 repeat refine AI ?_
 all_goals repeat refine AI ?_
 all_goals first|kernel_rfl|omega|rfl
theorem IsValidSceneI_fn (s:DSc):Fn Tryz.prog 13 [⟨tScene,s⟩] false [⟨.bool,sceneB s⟩]:=IsValidSceneI_fn' s.1.1 s.1.2 s.2.1.1 s.2.1.2 s.2.2.1 s.2.2.2.1 s.2.2.2.2
theorem arePolygonsC_fn (l:List DV):Fn Tryz.prog 173 [⟨.slice tVec,l⟩] false [⟨.bool,!polyB l⟩]:=by
 refine fe Tryz.func173 Tryz.ntmps173 Tryz.results173 fun hwf=>?_
 try simp (maxSteps:=9^9) only[go_sem]
 repeat refine AI ?_
 refine cw (implIsPolygon_fn l) ?_
 try simp (maxSteps:=9^9) only[go_sem]
set_option maxHeartbeats 1000000 in
theorem EdgesOf_fn (l:List (List DV)) (hp:∀ a ∈ l,polyB a=true) (hn:l.length<=1000):Fn Tryz.prog 89 [⟨tVecSS,l⟩] true [⟨.slice tEdge,edsD l⟩]:=by
 have c1:=containsFunc_vs_fn 173 (fun a=>!polyB a) l fun y _=>arePolygonsC_fn y
 have e1:(l.any fun a=>!polyB a)=false:=by
  rw [List.any_eq_false]
  intro a ha
  rw [hp a ha]; decide
 rw [e1] at c1
 have c2:Fn Tryz.prog 128 [⟨tVecSS,l⟩] false [⟨.bool,true⟩]:=by
  refine fe Tryz.func128 Tryz.ntmps128 Tryz.results128 fun hwf=>?_
  try simp (maxSteps:=9^9) only[go_sem]
  repeat refine AI ?_
  refine cw c1 ?_
  try simp (maxSteps:=9^9) only[go_sem]
 have h16:∀ a ∈ l,a.length<=16:=fun a ha=>polyB_len (hp a ha)
 refine fe Tryz.func89 Tryz.ntmps89 Tryz.results89 fun hwf=>?_
 try simp (maxSteps:=9^9) only[go_sem]
 repeat refine AI ?_
 refine cw c2 ?_
 try simp (maxSteps:=9^9) only[go_sem]
 refine LoopG.intro _ _ _ (fun i:Nat=>⟨[(3,.row 0 0),(10,.sl (.slice tVec) l),(11,.sc (.int .i64 l.length)),(12,.sc (.int .i64 i))],[(0,.row 139 tEdge 0 true (edA l i))]⟩) (fun i=>i<=l.length) (fun i=>l.length - i) 0 ?_ (Nat.zero_le _) ?_
 ·exact WK
 ·rintro i hi
  have hlen:=edA_len l h16 i hi
  try simp (maxSteps:=9^9) only[go_sem]
  refine CondW_dec (fun hA=>?_) (fun hA=>?_)
  ·have hlt:i < l.length:=by omega
   have hm:=h16 _ (nth_in (t:=.slice tVec) hlt)
   have hel:=edL_len (nth (t:=.slice tVec) l i) i
   have c3:=edgesOf_fn (nth (t:=.slice tVec) l i) i (by omega)
   try simp (maxSteps:=9^9) only[go_sem]
   repeat refine AI ?_
   refine cw c3 ?_
   try simp (maxSteps:=9^9) only[go_sem]
   repeat refine AI ?_
   refine LoopK.mk (i+1) ?_ (by omega) (by omega)
   rw [edA]
   exact WK
  ·obtain rfl:i=l.length:=by omega
   try simp (maxSteps:=9^9) only[go_sem]
   all_goals repeat refine AI ?_
   all_goals first|kernel_rfl|omega|rfl
theorem gV_oD {x:Option Rat} (h:okO x) (hs:x.isSome=true):gV (oD x):=by
 show okR (oD x)=true
 unfold okR; rw [rdO_oD h]; exact hs
noncomputable def evA (lo hi:Option Rat) (l:List DR) (x:Option Rat) (ok:Bool):List DR:=if (ok && (decide (0 < cmpO x lo) && decide (cmpO x hi < 0)))=true then l++[oD x] else l
theorem evA_len (lo hi:Option Rat) (l:List DR) (x:Option Rat) (ok:Bool):(evA lo hi l x ok).length<=l.length+1:=by
 unfold evA; split
 ·rw [List.length_append]; exact Nat.le_refl _
 ·exact Nat.le_succ _
theorem evA_ok {lo hi:Option Rat} {l:List DR} {x:Option Rat} {ok:Bool} (hx:okO x) (hs:ok=true->x.isSome=true) (hl:∀ r ∈ l,gV r):∀ r ∈ evA lo hi l x ok,gV r:=by
 intro r hr
 unfold evA at hr
 split at hr
 ·rename_i h
  rw [Bool.and_eq_true] at h
  rcases List.mem_append.1 hr with hr|hr
  ·exact hl r hr
  ·rw [List.mem_singleton.1 hr]; exact gV_oD hx (hs h.1)
 ·exact hl r hr
set_option maxHeartbeats 4000000 in
theorem evAdd_fn (ver:Nat) (lo hi x:Option Rat) (ok:Bool) (l:List DR) (h1:okO lo) (h2:okO hi) (hx:okO x) (hl:l.length<=1000000):FnA Tryz.prog 87 [.agg (rC x),.sc (.bool ok),.ptr 0 0,.ptr 1 0,.ptr 2 0] [(0,.box (rC lo)),(1,.box (rC hi)),(2,.box [.row 3 ver]),(3,.row 90 tRat ver false l)] (.tup []) [(0,.box (rC lo)),(1,.box (rC hi)),(2,.box [.row 3 (ver+1)]),(3,.row 90 tRat (ver+1) false (evA lo hi l x ok))]:=by
 have c1:=ratCmp_fn x lo hx h1
 have c2:=ratCmp_fn x hi hx h2
 unfold evA
 cases ok
 ·rw [if_neg (fun h=>by cases h)]
  refine fnA_enter tabOK mixes Tryz.func87 rfl rfl _ Tryz.ntmps87 _ Tryz.results87 (by simp) (by first|exact .inl rfl|exact .inr ⟨_,rfl⟩) fun β=>?_
  try simp (maxSteps:=9^9) only[go_sem]
  repeat refine AI ?_
  exact WK
 by_cases d1:0 < cmpO x lo
 rotate_left
 ·have d1':=decide_eq_false d1
  rw [d1',if_neg (fun h=>by cases h)]
  refine fnA_enter tabOK mixes Tryz.func87 rfl rfl _ Tryz.ntmps87 _ Tryz.results87 (by simp) (by first|exact .inl rfl|exact .inr ⟨_,rfl⟩) fun β=>?_
  try simp (maxSteps:=9^9) only[go_sem]
  repeat refine AI ?_
  repeat refine AI ?_
  refine cw c1 ?_
  try simp (maxSteps:=9^9) only[go_sem]
  try simp (maxSteps:=9^9) only[go_sem,d1']
  repeat refine AI ?_
  exact WK
 have d1':=decide_eq_true d1
 rw [d1']
 by_cases d2:cmpO x hi < 0
 rotate_left
 ·have d2':=decide_eq_false d2
  rw [d2',if_neg (fun h=>by cases h)]
  refine fnA_enter tabOK mixes Tryz.func87 rfl rfl _ Tryz.ntmps87 _ Tryz.results87 (by simp) (by first|exact .inl rfl|exact .inr ⟨_,rfl⟩) fun β=>?_
  try simp (maxSteps:=9^9) only[go_sem]
  repeat refine AI ?_
  repeat refine AI ?_
  refine cw c1 ?_
  try simp (maxSteps:=9^9) only[go_sem]
  try simp (maxSteps:=9^9) only[go_sem,d1']
  repeat refine AI ?_
  repeat refine AI ?_
  refine cw c2 ?_
  try simp (maxSteps:=9^9) only[go_sem]
  try simp (maxSteps:=9^9) only[go_sem,d2']
  repeat refine AI ?_
  exact WK
 have d2':=decide_eq_true d2
 rw [d2',if_pos (show (true && (true && true))=true from rfl)]
 refine fnA_enter tabOK mixes Tryz.func87 rfl rfl _ Tryz.ntmps87 _ Tryz.results87 (by simp) (by first|exact .inl rfl|exact .inr ⟨_,rfl⟩) fun β=>?_
 try simp (maxSteps:=9^9) only[go_sem]
 repeat refine AI ?_
 repeat refine AI ?_
 refine cw c1 ?_
 try simp (maxSteps:=9^9) only[go_sem]
 try simp (maxSteps:=9^9) only[go_sem,d1']
 repeat refine AI ?_
 repeat refine AI ?_
 refine cw c2 ?_
 try simp (maxSteps:=9^9) only[go_sem]
 try simp (maxSteps:=9^9) only[go_sem,d2']
 repeat refine AI ?_
 exact WK
noncomputable def evP (lo hi:Option Rat) (l0:List DR) (a:List DV):Nat->List DR
 | 0=>l0
 | k+1=>evA lo hi (evP lo hi l0 a k) (inQ (nth (t:=tVec) a k).1) true
noncomputable def evQ (lo hi:Option Rat) (l:List (List DV)):Nat->List DR
 | 0=>[]
 | k+1=>evP lo hi (evQ lo hi l k) (nth (t:=.slice tVec) l k) (nth (t:=.slice tVec) l k).length
noncomputable def evE (lo hi:Option Rat) (l0:List DR) (e:DE) (es:List DE):Nat->List DR
 | 0=>l0
 | k+1=>evA lo hi (evE lo hi l0 e es k) (crO e (nth (t:=tEdge) es k)) (crB e (nth (t:=tEdge) es k))
noncomputable def evG (lo hi:Option Rat) (y1 y2:Int) (l0:List DR) (es:List DE) (i:Nat):List DR :=
 evA lo hi (evA lo hi (evE lo hi l0 (nth (t:=tEdge) es i) (es.take i) (es.take i).length) (lvO (nth (t:=tEdge) es i) y1) (lvB (nth (t:=tEdge) es i) y1)) (lvO (nth (t:=tEdge) es i) y2) (lvB (nth (t:=tEdge) es i) y2)
noncomputable def evF (lo hi:Option Rat) (y1 y2:Int) (l0:List DR) (es:List DE):Nat->List DR
 | 0=>l0
 | i+1=>evG lo hi y1 y2 (evF lo hi y1 y2 l0 es i) es i
theorem evP_len (lo hi:Option Rat) (l0:List DR) (a:List DV):∀ k,(evP lo hi l0 a k).length<=l0.length+k
 | 0=>Nat.le_refl _
 | k+1=>Nat.le_trans (evA_len _ _ _ _ _) (Nat.succ_le_succ (evP_len lo hi l0 a k))
theorem evP_ok {lo hi:Option Rat} {l0:List DR} {a:List DV} (h0:∀ r ∈ l0,gV r) (ha:∀ v ∈ a,okV v=true):∀ k,k<=a.length->∀ r ∈ evP lo hi l0 a k,gV r
 | 0,_=>h0
 | k+1,hk=>by
  obtain ⟨k1,k2,_,_⟩:=okV_b (ha _ (nth_mem (i:=k) (by omega)))
  exact evA_ok (okO_in (by omega)) (fun _=>rfl) (evP_ok h0 ha k (by omega))
theorem evQ_len {lo hi:Option Rat} {l:List (List DV)} (h:∀ a ∈ l,polyB a=true):∀ k,k<=l.length->(evQ lo hi l k).length<=16 * k
 | 0,_=>Nat.le_refl _
 | k+1,hk=>by
  have h1:=evQ_len (lo:=lo) (hi:=hi) h k (by omega)
  have h2:=evP_len lo hi (evQ lo hi l k) (nth (t:=.slice tVec) l k) (nth (t:=.slice tVec) l k).length
  have h3:=polyB_len (h _ (nth_in (t:=.slice tVec) (i:=k) (by omega)))
  rw [evQ]; omega
theorem evQ_ok {lo hi:Option Rat} {l:List (List DV)} (h:∀ a ∈ l,polyB a=true):∀ k,k<=l.length->∀ r ∈ evQ lo hi l k,gV r
 | 0,_=>fun r hr=>by cases hr
 | k+1,hk=>evP_ok (evQ_ok h k (by omega)) (polyB_ok (h _ (nth_in (t:=.slice tVec) (i:=k) (by omega)))) _ (Nat.le_refl _)
theorem evE_len (lo hi:Option Rat) (l0:List DR) (e:DE) (es:List DE):∀ k,(evE lo hi l0 e es k).length<=l0.length+k
 | 0=>Nat.le_refl _
 | k+1=>Nat.le_trans (evA_len _ _ _ _ _) (Nat.succ_le_succ (evE_len lo hi l0 e es k))
theorem evE_ok {lo hi:Option Rat} {l0:List DR} {e:DE} {es:List DE} (h0:∀ r ∈ l0,gV r):∀ k,∀ r ∈ evE lo hi l0 e es k,gV r
 | 0=>h0
 | k+1=>evA_ok (okO_cr _ _) (fun h=>cr_some h) (evE_ok h0 k)
theorem evG_len (lo hi:Option Rat) (y1 y2:Int) (l0:List DR) (es:List DE) (i:Nat):(evG lo hi y1 y2 l0 es i).length<=l0.length+i+2:=by
 have h1:=evE_len lo hi l0 (nth (t:=tEdge) es i) (es.take i) (es.take i).length
 have h2:(es.take i).length<=i:=by rw [List.length_take]; omega
 unfold evG
 exact Nat.le_trans (evA_len _ _ _ _ _) (Nat.succ_le_succ (Nat.le_trans (evA_len _ _ _ _ _) (Nat.succ_le_succ (by omega))))
theorem evG_ok {lo hi:Option Rat} {y1 y2:Int} {l0:List DR} {es:List DE} {i:Nat} (h0:∀ r ∈ l0,gV r):∀ r ∈ evG lo hi y1 y2 l0 es i,gV r :=
 evA_ok (okO_lv _ _) (fun h=>lv_some h) (evA_ok (okO_lv _ _) (fun h=>lv_some h) (evE_ok h0 _))
theorem evF_len (lo hi:Option Rat) (y1 y2:Int) (l0:List DR) (es:List DE):∀ i,i<=320->(evF lo hi y1 y2 l0 es i).length<=l0.length+322 * i
 | 0,_=>Nat.le_refl _
 | i+1,hi0=>by
  have h1:=evF_len lo hi y1 y2 l0 es i (by omega)
  have h2:=evG_len lo hi y1 y2 (evF lo hi y1 y2 l0 es i) es i
  rw [evF]; omega
theorem evF_ok {lo hi:Option Rat} {y1 y2:Int} {l0:List DR} {es:List DE} (h0:∀ r ∈ l0,gV r):∀ i,∀ r ∈ evF lo hi y1 y2 l0 es i,gV r
 | 0=>h0
 | i+1=>evG_ok (evF_ok h0 i)
noncomputable def evL (b:DV × DV) (l:List (List DV)):List DR :=
 evF (inQ b.1.1) (inQ b.2.1) b.1.2 b.2.2 (evQ (inQ b.1.1) (inQ b.2.1) l l.length) (edsD l) (edsD l).length++[oD (inQ b.1.1),oD (inQ b.2.1)]
noncomputable def evD (b:DV × DV) (l:List (List DV)):List DR:=cmQ (srQ (evL b l))
theorem evL_ok {b:DV × DV} {l:List (List DV)} (hb:b.1.1.natAbs<=1000000/\b.2.1.natAbs<=1000000) (hp:∀ a ∈ l,polyB a=true):∀ r ∈ evL b l,gV r:=by
 intro r hr
 rcases List.mem_append.1 (show r ∈ evF _ _ _ _ _ _ _++_ from hr) with hr|hr
 ·exact evF_ok (evQ_ok hp _ (Nat.le_refl _)) _ r hr
 ·rcases List.mem_cons.1 hr with rfl|hr
  ·exact gV_oD (okO_in hb.1) rfl
  ·rw [List.mem_singleton.1 hr]; exact gV_oD (okO_in hb.2) rfl
theorem edsD_len {l:List (List DV)} (hp:∀ a ∈ l,polyB a=true) (hl:l.length < 20):(edsD l).length<=320:=by
 have:=edA_len l (fun a ha=>polyB_len (hp a ha)) l.length (Nat.le_refl _)
 show (edA l l.length).length<=320
 omega
set_option maxHeartbeats 16000000 in
theorem eventsOf_fn (b:DV × DV) (l:List (List DV)) (hb:b.1.1.natAbs<=1000000/\b.2.1.natAbs<=1000000) (hy:(-1000<=b.1.2/\b.1.2<=1000)/\(-1000<=b.2.2/\b.2.2<=1000)) (hp:∀ a ∈ l,polyB a=true) (hl:l.length < 20):Fn Tryz.prog 46 [⟨tBox,b⟩,⟨tVecSS,l⟩] false [⟨.slice tRat,evD b l⟩]:=by
 have hok:=evL_ok hb hp
 have hel:=edsD_len hp hl
 have hed:=edA_ok (fun a ha=>polyB_ok (hp a ha)) l.length (Nat.le_refl _)
 rw [show edA l l.length=edsD l from rfl] at hed
 have cE:=EdgesOf_fn l hp (by omega)
 have hqo:=evQ_ok (lo:=inQ b.1.1) (hi:=inQ b.2.1) hp
 have hql:=evQ_len (lo:=inQ b.1.1) (hi:=inQ b.2.1) hp
 obtain ⟨⟨b1,b2⟩,⟨b3,b4⟩⟩:=b
 have k1:=okO_in (n:=b1) hb.1
 have k2:=okO_in (n:=b3) hb.2
 have c1:=(ratInQ_fn b1).sh
 have c2:=(ratInQ_fn b3).sh
 simp only at hqo hql
 unfold evD
 have hev:evL ((b1,b2),(b3,b4)) l=evF (inQ b1) (inQ b3) b2 b4 (evQ (inQ b1) (inQ b3) l l.length) (edsD l) (edsD l).length++[oD (inQ b1),oD (inQ b3)]:=rfl
 rw [hev] at hok ⊢
 generalize edsD l=es at *
 generalize hlo:inQ b1=lo at *
 generalize hhi:inQ b3=hi at *
 refine fe Tryz.func46 Tryz.ntmps46 Tryz.results46 fun hwf=>?_
 try simp (maxSteps:=9^9) only[go_sem]
 repeat refine AI ?_
 refine cw c1 ?_
 try simp (maxSteps:=9^9) only[go_sem]
 repeat refine AI ?_
 refine cw c2 ?_
 try simp (maxSteps:=9^9) only[go_sem]
 repeat refine AI ?_
 refine LoopG.intro _ _ _ (fun i:Nat=>⟨[(1,.sl (.slice tVec) l),(2,.ptr 4 0),(5,.ptr 0 0),(6,.ptr 1 0),(7,.ptr 2 0),(8,.clb 87 [0,1,2]),(28,.sl (.slice tVec) l),(29,.sc (.int .i64 l.length)),(30,.sc (.int .i64 i))],[(0,.box (rC lo)),(1,.box (rC hi)),(2,.box [.row 3 0]),(3,.row 90 tRat 0 false (evQ lo hi l i)),(4,.box [.sc (.int .i64 b1),.sc (.int .i64 b2),.sc (.int .i64 b3),.sc (.int .i64 b4)])]⟩) (fun i=>i<=l.length) (fun i=>l.length - i) 0 ?_ (Nat.zero_le _) ?_
 ·refine Wk.mk [(0,1),(1,2),(2,4),(3,3),(4,0)] ?_
  try simp (maxSteps:=9^9) only[go_sem]
  try (and_intros<;>first|rfl|omega|exact ⟨_,rfl⟩)
 ·rintro i hi0
  have hqli:=hql i hi0
  try simp (maxSteps:=9^9) only[go_sem]
  refine CondW_dec (fun hA=>?_) (fun hA=>?_)
  ·have hlt:i < l.length:=by omega
   have hpa:=hp _ (nth_in (t:=.slice tVec) hlt)
   have hal:=polyB_len hpa
   have hao:=polyB_ok hpa
   have e:evQ lo hi l (i+1)=evP lo hi (evQ lo hi l i) (nth (t:=.slice tVec) l i) (nth (t:=.slice tVec) l i).length:=rfl
   try simp (maxSteps:=9^9) only[go_sem]
   repeat refine AI ?_
   refine LoopG.intro _ _ _ (fun k:Nat=>⟨[(1,.sl (.slice tVec) l),(2,.ptr 4 0),(5,.ptr 0 0),(6,.ptr 1 0),(7,.ptr 2 0),(8,.clb 87 [0,1,2]),(28,.sl (.slice tVec) l),(29,.sc (.int .i64 l.length)),(30,.sc (.int .i64 i)),(34,.sl tVec (nth (t:=.slice tVec) l i)),(35,.sc (.int .i64 (nth (t:=.slice tVec) l i).length)),(36,.sc (.int .i64 k))],[(0,.box (rC lo)),(1,.box (rC hi)),(2,.box [.row 3 0]),(3,.row 90 tRat 0 false (evP lo hi (evQ lo hi l i) (nth (t:=.slice tVec) l i) k)),(4,.box [.sc (.int .i64 b1),.sc (.int .i64 b2),.sc (.int .i64 b3),.sc (.int .i64 b4)])]⟩) (fun k=>k<=(nth (t:=.slice tVec) l i).length) (fun k=>(nth (t:=.slice tVec) l i).length - k) 0 ?_ (Nat.zero_le _) ?_
   ·exact WK
   ·rintro k hk
    have hpl:=evP_len lo hi (evQ lo hi l i) (nth (t:=.slice tVec) l i) k
    try simp (maxSteps:=9^9) only[go_sem]
    refine CondW_dec (fun hB=>?_) (fun hB=>?_)
    ·have hkt:k < (nth (t:=.slice tVec) l i).length:=by omega
     obtain ⟨m1,m2,_,_⟩:=okV_b (hao _ (nth_mem hkt))
     have c3:=(ratInQ_fn (nth (t:=tVec) (nth (t:=.slice tVec) l i) k).1).sh
     have c4:=evAdd_fn 0 lo hi (inQ (nth (t:=tVec) (nth (t:=.slice tVec) l i) k).1) true (evP lo hi (evQ lo hi l i) (nth (t:=.slice tVec) l i) k) k1 k2 (okO_in (by omega)) (by omega)
     have e2:evP lo hi (evQ lo hi l i) (nth (t:=.slice tVec) l i) (k+1)=evA lo hi (evP lo hi (evQ lo hi l i) (nth (t:=.slice tVec) l i) k) (inQ (nth (t:=tVec) (nth (t:=.slice tVec) l i) k).1) true:=rfl
     try simp (maxSteps:=9^9) only[go_sem]
     repeat refine AI ?_
     repeat refine AI ?_
     refine cw c3 ?_
     try simp (maxSteps:=9^9) only[go_sem]
     repeat refine AI ?_
     refine CallA.mk (c4) ?_
     try simp (maxSteps:=9^9) only[go_sem]
     repeat refine AI ?_
     refine LoopK.mk (k+1) ?_ (by omega) (by omega)
     rw [e2]
     exact WK
    ·obtain rfl:k=(nth (t:=.slice tVec) l i).length:=by omega
     try simp (maxSteps:=9^9) only[go_sem]
     repeat refine AI ?_
     refine LoopK.mk (i+1) ?_ (by omega) (by omega)
     rw [e]
     exact WK
  ·obtain rfl:i=l.length:=by omega
   try simp (maxSteps:=9^9) only[go_sem]
   repeat refine AI ?_
   refine cw cE ?_
   try simp (maxSteps:=9^9) only[go_sem]
   have hq0:=hql l.length (Nat.le_refl _)
   generalize evQ lo hi l l.length=L0 at *
   refine LoopG.intro _ _ _ (fun i:Nat=>⟨[(2,.ptr 4 0),(5,.ptr 0 0),(6,.ptr 1 0),(7,.ptr 2 0),(8,.clb 87 [0,1,2]),(13,.sl tEdge es),(49,.sl tEdge es),(50,.sc (.int .i64 es.length)),(51,.sc (.int .i64 i))],[(0,.box (rC lo)),(1,.box (rC hi)),(2,.box [.row 3 0]),(3,.row 90 tRat 0 false (evF lo hi b2 b4 L0 es i)),(4,.box [.sc (.int .i64 b1),.sc (.int .i64 b2),.sc (.int .i64 b3),.sc (.int .i64 b4)])]⟩) (fun i=>i<=es.length) (fun i=>es.length - i) 0 ?_ (Nat.zero_le _) ?_
   ·exact WK
   ·rintro i hi1
    have hfl:=evF_len lo hi b2 b4 L0 es i (by omega)
    try simp (maxSteps:=9^9) only[go_sem]
    refine CondW_dec (fun hB=>?_) (fun hB=>?_)
    ·have hlt:i < es.length:=by omega
     have hv:=hed _ (nth_in (t:=tEdge) hlt)
     have c5:=LevelX_fn (nth (t:=tEdge) es i) b2 hv hy.1
     have c6:=LevelX_fn (nth (t:=tEdge) es i) b4 hv hy.2
     have e:evF lo hi b2 b4 L0 es (i+1)=evA lo hi (evA lo hi (evE lo hi (evF lo hi b2 b4 L0 es i) (nth (t:=tEdge) es i) (es.take i) (es.take i).length) (lvO (nth (t:=tEdge) es i) b2) (lvB (nth (t:=tEdge) es i) b2)) (lvO (nth (t:=tEdge) es i) b4) (lvB (nth (t:=tEdge) es i) b4):=rfl
     have htl:(es.take i).length=i:=by rw [List.length_take]; omega
     have hte:∀ x ∈ es.take i,vE x=true:=fun x hx=>hed x (List.mem_of_mem_take hx)
     have t0:(es.take ((i:Int)).toNat).drop ((0:Int)).toNat=es.take i:=by rw [Int.toNat_natCast]; rfl
     try simp (maxSteps:=9^9) only[go_sem]
     repeat refine AI ?_
     refine LoopG.intro _ _ _ (fun k:Nat=>⟨[(2,.ptr 4 0),(5,.ptr 0 0),(6,.ptr 1 0),(7,.ptr 2 0),(8,.clb 87 [0,1,2]),(13,.sl tEdge es),(15,.ptr 5 0),(49,.sl tEdge es),(50,.sc (.int .i64 es.length)),(51,.sc (.int .i64 i)),(58,.sl tEdge (es.take i)),(59,.sc (.int .i64 (es.take i).length)),(60,.sc (.int .i64 k))],[(0,.box (rC lo)),(1,.box (rC hi)),(2,.box [.row 3 0]),(3,.row 90 tRat 0 false (evE lo hi (evF lo hi b2 b4 L0 es i) (nth (t:=tEdge) es i) (es.take i) k)),(4,.box [.sc (.int .i64 b1),.sc (.int .i64 b2),.sc (.int .i64 b3),.sc (.int .i64 b4)]),(5,.box [.sc (.int .i64 (nth (t:=tEdge) es i).1.1),.sc (.int .i64 (nth (t:=tEdge) es i).1.2),.sc (.int .i64 (nth (t:=tEdge) es i).2.1.1),.sc (.int .i64 (nth (t:=tEdge) es i).2.1.2),.sc (.int .i64 (nth (t:=tEdge) es i).2.2.1),.sc (.bool (nth (t:=tEdge) es i).2.2.2)])]⟩) (fun k=>k<=(es.take i).length) (fun k=>(es.take i).length - k) 0 ?_ (Nat.zero_le _) ?_
     ·exact WK
     ·rintro k hk
      have hpl:=evE_len lo hi (evF lo hi b2 b4 L0 es i) (nth (t:=tEdge) es i) (es.take i) k
      try simp (maxSteps:=9^9) only[go_sem]
      refine CondW_dec (fun hC=>?_) (fun hC=>?_)
      ·have hkt:k < (es.take i).length:=by omega
       have hv2:=hte _ (nth_in (t:=tEdge) hkt)
       have c3:=CrossingX_fn (nth (t:=tEdge) es i) (nth (t:=tEdge) (es.take i) k) hv hv2
       have c4:=evAdd_fn 0 lo hi (crO (nth (t:=tEdge) es i) (nth (t:=tEdge) (es.take i) k)) (crB (nth (t:=tEdge) es i) (nth (t:=tEdge) (es.take i) k)) (evE lo hi (evF lo hi b2 b4 L0 es i) (nth (t:=tEdge) es i) (es.take i) k) k1 k2 (okO_cr _ _) (by omega)
       have e2:evE lo hi (evF lo hi b2 b4 L0 es i) (nth (t:=tEdge) es i) (es.take i) (k+1)=evA lo hi (evE lo hi (evF lo hi b2 b4 L0 es i) (nth (t:=tEdge) es i) (es.take i) k) (crO (nth (t:=tEdge) es i) (nth (t:=tEdge) (es.take i) k)) (crB (nth (t:=tEdge) es i) (nth (t:=tEdge) (es.take i) k)):=rfl
       try simp (maxSteps:=9^9) only[go_sem]
       repeat refine AI ?_
       repeat refine AI ?_
       refine cw c3 ?_
       try simp (maxSteps:=9^9) only[go_sem]
       repeat refine AI ?_
       refine CallA.mk (c4) ?_
       try simp (maxSteps:=9^9) only[go_sem]
       repeat refine AI ?_
       refine LoopK.mk (k+1) ?_ (by omega) (by omega)
       rw [e2]
       exact WK
      ·obtain rfl:k=(es.take i).length:=by omega
       generalize hL:evE lo hi (evF lo hi b2 b4 L0 es i) (nth (t:=tEdge) es i) (es.take i) (es.take i).length=L at *
       have c7:=evAdd_fn 0 lo hi (lvO (nth (t:=tEdge) es i) b2) (lvB (nth (t:=tEdge) es i) b2) L k1 k2 (okO_lv _ _) (by omega)
       have hl2:=evA_len lo hi L (lvO (nth (t:=tEdge) es i) b2) (lvB (nth (t:=tEdge) es i) b2)
       have c8:=evAdd_fn 1 lo hi (lvO (nth (t:=tEdge) es i) b4) (lvB (nth (t:=tEdge) es i) b4) (evA lo hi L (lvO (nth (t:=tEdge) es i) b2) (lvB (nth (t:=tEdge) es i) b2)) k1 k2 (okO_lv _ _) (by omega)
       try simp (maxSteps:=9^9) only[go_sem]
       repeat refine AI ?_
       repeat refine AI ?_
       refine cw c5 ?_
       try simp (maxSteps:=9^9) only[go_sem]
       repeat refine AI ?_
       refine CallA.mk (c7) ?_
       try simp (maxSteps:=9^9) only[go_sem]
       repeat refine AI ?_
       repeat refine AI ?_
       refine cw c6 ?_
       try simp (maxSteps:=9^9) only[go_sem]
       repeat refine AI ?_
       refine CallA.mk (c8) ?_
       try simp (maxSteps:=9^9) only[go_sem]
       repeat refine AI ?_
       refine LoopK.mk (i+1) ?_ (by omega) (by omega)
       rw [e]
       exact WK
    ·obtain rfl:i=es.length:=by omega
     generalize evF lo hi b2 b4 L0 es es.length=L at *
     have c9:=sortedRats_fn (L++[oD lo,oD hi]) (by rw [List.length_append]; exact Nat.lt_of_lt_of_le (by decide:0 < 2) (Nat.le_add_left _ _)) (by rw [List.length_append]; show L.length+2<=_; omega) hok
     try simp (maxSteps:=9^9) only[go_sem]
     repeat refine AI ?_
     refine cw c9 ?_
     try simp (maxSteps:=9^9) only[go_sem]
     all_goals repeat refine AI ?_
     all_goals first|kernel_rfl|omega|rfl
noncomputable def scI (l:List (List DV)) (x:Option Rat):Nat->List DP
 | 0=>[]
 | k+1=>if (secD (nth (t:=.slice tVec) l k) x).2.2=true then scI l x k++[(oD (secD (nth (t:=.slice tVec) l k) x).1,oD (secD (nth (t:=.slice tVec) l k) x).2.1)] else scI l x k
theorem scI_len (l:List (List DV)) (x:Option Rat):∀ k,(scI l x k).length<=k
 | 0=>Nat.le_refl _
 | k+1=>by
  have:=scI_len l x k
  rw [scI]
  split
  ·rw [List.length_append,List.length_singleton]; omega
  ·omega
theorem scI_ok (l:List (List DV)) (x:Option Rat):∀ k,∀ s ∈ scI l x k,gB s
 | 0,s,h=>by cases h
 | k+1,s,h=>by
  rw [scI] at h
  split at h
  ·rcases List.mem_append.1 h with h|h
   ·exact scI_ok l x k s h
   ·rw [List.mem_singleton.1 h]
    exact ⟨gF_oD (secD_ok _ _).1,gF_oD (secD_ok _ _).2⟩
  ·exact scI_ok l x k s h
noncomputable def scS (l:List (List DV)) (x:Option Rat):List DP:=isrD tPoint cfB (scI l x l.length)
theorem scS_ok (l:List (List DV)) (x:Option Rat):∀ s ∈ scS l x,gB s:=fun s h=>scI_ok l x _ s (isrD_mem h)
theorem scS_len (l:List (List DV)) (x:Option Rat):(scS l x).length<=l.length:=by
 unfold scS; rw [isrD_len]; exact scI_len _ _ _
noncomputable def wlI (S:List DP) (x low top:Option Rat):Nat->Option Rat × List tWall.den
 | 0=>(low,[])
 | k+1=>(maxO (wlI S x low top k).1 (rdO (nth (t:=tPoint) S k).2),wlA x top (wlI S x low top k).1 (wlI S x low top k).2 (rdO (nth (t:=tPoint) S k).1))
theorem wlI_ok {S:List DP} {x low top:Option Rat} (h:okO low):∀ k,okO (wlI S x low top k).1
 | 0=>h
 | k+1=>okO_max (wlI_ok h k) (okO_rdO _)
theorem wlI_len (S:List DP) (x low top:Option Rat):∀ k,(wlI S x low top k).2.length<=k
 | 0=>Nat.le_refl _
 | k+1=>Nat.le_trans (wlA_len _ _ _ _ _) (Nat.succ_le_succ (wlI_len S x low top k))
noncomputable def walD (b:DV × DV) (l:List (List DV)) (x:Option Rat):List tWall.den :=
 wlA x (inQ b.2.2) (wlI (scS l x) x (inQ b.1.2) (inQ b.2.2) (scS l x).length).1 (wlI (scS l x) x (inQ b.1.2) (inQ b.2.2) (scS l x).length).2 (inQ b.2.2)
set_option maxHeartbeats 4000000 in
theorem wallsAt_fn (b:DV × DV) (l:List (List DV)) (x:Option Rat) (hb:b.1.2.natAbs<=1000000/\b.2.2.natAbs<=1000000) (hp:∀ a ∈ l,polyB a=true) (hl:l.length < 20) (hx:okO x):Fn Tryz.prog 48 [⟨tBox,b⟩,⟨tVecSS,l⟩,⟨tRat,oD x⟩] false [⟨.slice tWall,walD b l x⟩]:=by
 obtain ⟨⟨b1,b2⟩,⟨b3,b4⟩⟩:=b
 have k1:=okO_in (n:=b2) hb.1
 have k2:=okO_in (n:=b4) hb.2
 have c1:=(ratInQ_fn b2).sh
 have c2:=(ratInQ_fn b4).sh
 have hs:=sortB_fn (scI l x l.length) (Nat.lt_of_le_of_lt (scI_len l x _) hl) (scI_ok l x _)
 rw [show isrD tPoint cfB (scI l x l.length)=scS l x from rfl] at hs
 have hso:=scS_ok l x
 have hsl:=scS_len l x
 unfold walD
 dsimp only
 refine fe Tryz.func48 Tryz.ntmps48 Tryz.results48 fun hwf=>?_
 try simp (maxSteps:=9^9) only[go_sem]
 refine LoopG.intro _ _ _ (fun i:Nat=>⟨[(3,.ptr 1 0),(5,.ptr 2 0),(7,.row 0 0),(20,.sl (.slice tVec) l),(21,.sc (.int .i64 l.length)),(22,.sc (.int .i64 i))],[(0,.row 145 tPoint 0 false (scI l x i)),(1,.box [.sc (.int .i64 b1),.sc (.int .i64 b2),.sc (.int .i64 b3),.sc (.int .i64 b4)]),(2,.box (rC x))]⟩) (fun i=>i<=l.length) (fun i=>l.length - i) 0 ?_ (Nat.zero_le _) ?_
 ·refine Wk.mk [(0,2),(1,0),(2,1)] ?_
  try simp (maxSteps:=9^9) only[go_sem]
  try (and_intros<;>first|rfl|omega|exact ⟨_,rfl⟩)
 ·rintro i hi
  have hlen:=scI_len l x i
  try simp (maxSteps:=9^9) only[go_sem]
  refine CondW_dec (fun hA=>?_) (fun hA=>?_)
  ·have hlt:i < l.length:=by omega
   have c3:=sectionAt_fn (nth (t:=.slice tVec) l i) x (hp _ (nth_in (t:=.slice tVec) hlt)) hx
   have e:scI l x (i+1)=if (secD (nth (t:=.slice tVec) l i) x).2.2=true then scI l x i++[(oD (secD (nth (t:=.slice tVec) l i) x).1,oD (secD (nth (t:=.slice tVec) l i) x).2.1)] else scI l x i:=rfl
   generalize secD (nth (t:=.slice tVec) l i) x=s at *
   obtain ⟨s1,s2,s3⟩:=s
   cases s3
   ·rw [if_neg (fun h=>by cases h)] at e
    try simp (maxSteps:=9^9) only[go_sem]
    repeat refine AI ?_
    repeat refine AI ?_
    refine cw c3 ?_
    try simp (maxSteps:=9^9) only[go_sem]
    repeat refine AI ?_
    refine LoopK.mk (i+1) ?_ (by omega) (by omega)
    rw [e]
    exact WK
   ·rw [if_pos rfl] at e
    try simp (maxSteps:=9^9) only[go_sem]
    repeat refine AI ?_
    repeat refine AI ?_
    refine cw c3 ?_
    try simp (maxSteps:=9^9) only[go_sem]
    repeat refine AI ?_
    refine LoopK.mk (i+1) ?_ (by omega) (by omega)
    rw [e]
    exact WK
  ·obtain rfl:i=l.length:=by omega
   clear hlen
   generalize scI l x l.length=S0 at *
   generalize scS l x=S at *
   try simp (maxSteps:=9^9) only[go_sem]
   repeat refine AI ?_
   refine CallW.r (k:=0) (ver:=0) (o:=false) (hs) ?_
   try simp (maxSteps:=9^9) only[go_sem]
   repeat refine AI ?_
   repeat refine AI ?_
   refine cw c1 ?_
   try simp (maxSteps:=9^9) only[go_sem]
   repeat refine AI ?_
   refine cw c2 ?_
   try simp (maxSteps:=9^9) only[go_sem]
   repeat refine AI ?_
   refine LoopG.intro _ _ _ (fun i:Nat=>⟨[(13,.ptr 1 0),(14,.ptr 0 0),(15,.ptr 2 0),(16,.clb 100 [0,1,2,3]),(53,.sl tPoint S),(54,.sc (.int .i64 S.length)),(55,.sc (.int .i64 i))],[(0,.box (rC (inQ b4))),(1,.box (rC (wlI S x (inQ b2) (inQ b4) i).1)),(2,.box [.row 4 0]),(3,.box (rC x)),(4,.row 95 tWall 0 false (wlI S x (inQ b2) (inQ b4) i).2)]⟩) (fun i=>i<=S.length) (fun i=>S.length - i) 0 ?_ (Nat.zero_le _) ?_
   ·refine Wk.mk [(0,4),(1,3),(2,6),(3,2),(4,5)] ?_
    try simp (maxSteps:=9^9) only[go_sem]
    try (and_intros<;>first|rfl|omega|exact ⟨_,rfl⟩)
   ·rintro i hi
    have hlen:=wlI_len S x (inQ b2) (inQ b4) i
    have hok:=wlI_ok (S:=S) (x:=x) (top:=inQ b4) k1 i
    try simp (maxSteps:=9^9) only[go_sem]
    refine CondW_dec (fun hA=>?_) (fun hA=>?_)
    ·have hlt:i < S.length:=by omega
     have hg:=hso _ (nth_in (t:=tPoint) hlt)
     have e:wlI S x (inQ b2) (inQ b4) (i+1)=(maxO (wlI S x (inQ b2) (inQ b4) i).1 (rdO (nth (t:=tPoint) S i).2),wlA x (inQ b4) (wlI S x (inQ b2) (inQ b4) i).1 (wlI S x (inQ b2) (inQ b4) i).2 (rdO (nth (t:=tPoint) S i).1)):=rfl
     have c4:=wlAdd_fn 0 x (inQ b4) (wlI S x (inQ b2) (inQ b4) i).1 (rdO (nth (t:=tPoint) S i).1) (wlI S x (inQ b2) (inQ b4) i).2 hx k2 hok (okO_rdO _) (by omega)
     have c5:=ratMax_fn (wlI S x (inQ b2) (inQ b4) i).1 (rdO (nth (t:=tPoint) S i).2) hok (okO_rdO _)
     simp only [rC] at c4
     rw [hg.1] at c4
     rw [hg.2] at c5
     try simp (maxSteps:=9^9) only[go_sem]
     repeat refine AI ?_
     repeat refine AI ?_
     refine CallA.mk (c4) ?_
     try simp (maxSteps:=9^9) only[go_sem]
     repeat refine AI ?_
     repeat refine AI ?_
     refine cw c5 ?_
     try simp (maxSteps:=9^9) only[go_sem]
     repeat refine AI ?_
     refine LoopK.mk (i+1) ?_ (by omega) (by omega)
     rw [e]
     exact WK
    ·obtain rfl:i=S.length:=by omega
     have c4:=wlAdd_fn 0 x (inQ b4) (wlI S x (inQ b2) (inQ b4) S.length).1 (inQ b4) (wlI S x (inQ b2) (inQ b4) S.length).2 hx k2 hok k2 (by omega)
     try simp (maxSteps:=9^9) only[go_sem]
     repeat refine AI ?_
     repeat refine AI ?_
     refine CallA.mk (c4) ?_
     try simp (maxSteps:=9^9) only[go_sem]
     all_goals repeat refine AI ?_
     all_goals first|kernel_rfl|omega|rfl
end Go.Proofs.YtcbionahcldlnaaGreat.DW

namespace Go.Proofs.YtcbionahcldlnaaGreat
open Go.RowKit Go.Lib
set_option maxHeartbeats 1000000 in
theorem mul64_one (c:Nat) (hc:c<=1048576) (w:World):Calls Tryz.prog 184 #[.int .u64 1,.int .u64 c] w fun e w'=>e=.returned (.tuple #[.int .u64 0,.int .u64 c])/\w'=w:=by
 have h1:=Mul64.maskN c (by omega)
 rw [Nat.mod_eq_of_lt (by omega)] at h1
 have h2:bits .and .u64 1 4294967295=1:=by have:=Mul64.maskN 1 (by omega); simpa using this
 have h4:(c:Int) % 18446744073709551616=c:=by omega
 have h5:bits .and .u64 0 4294967295=0:=by have:=Mul64.maskN 0 (by omega); simpa using this
 have h3:(c:Int) / 4294967296=0:=by omega
 go_enter Tryz.func184,Tryz.ntmps184
 go_wp2
 go_ret2
 simp [h1,h2,h3,h4,h5,IntKind.wrap_u64]
set_option maxHeartbeats 1000000 in
theorem mul_one (c:Nat) (hc:c<=1048576) (w:World):Calls Tryz.prog 145 #[.int .u64 1,.int .u64 c] w fun e w'=>e=.returned (.tuple #[.int .u64 0,.int .u64 c])/\w'=w:=by
 have c64:=mul64_one c hc w
 go_enter Tryz.func145,Tryz.ntmps145
 go_wp2_with fail
 refine c64.mono ?_
 rintro e w' ⟨rfl,rfl⟩
 go_wp2
 go_ret2
 exact ⟨rfl,rfl⟩
set_option maxHeartbeats 4000000 in
theorem repeat_any (v:Int) (b off cp c:Nat) (w:World) (hb:b < w.heap.size) (hv:w.cell? ⟨b,off,none⟩=some (.int .i64 v)) (hc:c<=1048576) :
  Calls Tryz.prog 104 #[.slice (some ⟨b,off,none⟩) 1 cp,.int .i64 c] w fun e w'=>∃ g,e=.returned (.slice (some ⟨g,0,none⟩) c c)/\w.heap.size<=g/\w'.heap[g]? = some (.cells (List.replicate c (Value.int .i64 v)).toArray 3 (0,0))/\Below w.heap.size w w':=by
 have cm:=mul_one c hc w
 have hw:IntKind.u64.wrap (c:Int)=c:=by rw [IntKind.wrap_u64]; omega
 have hw2:IntKind.i64.wrap (c:Int)=c:=by rw [IntKind.wrap_i64]; omega
 have hw3:IntKind.u64.wrap 1=1:=by decide
 have hn:¬ (c:Int) < 0:=by omega
 have hn2:¬ (9223372036854775807:Int) < c:=by omega
 obtain ⟨i0,hi,hz0,hz1,hz2⟩:=info_parts infoint
 go_enter Tryz.func104,Tryz.ntmps104
 go_wp2_with fail
 refine cm.mono ?_
 rintro e w' ⟨rfl,he⟩
 rw [he]
 clear he
 go_wp2_with (at_make; refine wpList_make_full _ rfl _ _ 31 rfl w.heap.size 3 i0 _ 1 Tryz.underlying31 hi hz0 hz1 _ _ _ _ c rfl rfl rfl rfl (by rw [hz2]; omega) (by unfold maxLen; omega) (Nat.le_refl _) ?_)
 intro w1 hown hgrow
 have hb1:Below w.heap.size w w1:=(Below.refl _ _).grown hgrow (Nat.le_refl _) (by simp)
 obtain ⟨L,hLl,hg1⟩:∃ L:List Value,L.length=c/\w1.heap[w.heap.size]? = some (.cells L.toArray 3 (0,0)):=by
  obtain ⟨_,⟨h1,_⟩|⟨g,cap,cur,h1,_,h3,_,_,h6,_⟩⟩:=hown
  ·cases h1
  ·injection h1 with h1 _ h2
   injection h1 with h1
   injection h1 with h1
   subst h1 h2
   exact ⟨cur.toList,by rw [Array.length_toList,h6]; omega,by rw [h3]⟩
 have HG1:=Lib.hid hg1
 have hcv:w1.cell? ⟨b,off,none⟩=some (.int .i64 v):=(hb1.cell (p:=⟨b,off,none⟩) hb).trans hv
 clear hown hgrow hg1 hi hz0 hz1 hz2
 obtain ⟨X,hX⟩:∃ X,X=List.replicate (min 1 c) (Value.int .i64 v):=⟨_,rfl⟩
 have HXl:X.length=min 1 c:=by rw [hX]; simp
 have HX:=Lib.hid hX
 clear hX
 have hc1:=run_copy_row (P:=Tryz.prog) w1 31 31 3 3 w.heap.size 0 c c ⟨b,off,none⟩ 1 cp L.toArray 3 X Tryz.underlying31 (by kernel_rfl) HG1.out (by rw [HXl])
  (fun j u hj=>by
   rw [HX.out] at hj
   have hj0:j=0:=by have:=(List.getElem?_eq_some_iff.1 hj).1; simp at this; omega
   subst hj0
   rw [List.getElem?_replicate] at hj
   split at hj
   ·injection hj with hj; subst hj; simpa [Addr.add] using hcv
   ·cases hj) (by simp; omega) (fun u hu=>by rw [HX.out] at hu; rw [(List.mem_replicate.1 hu).2]; rfl)
 obtain ⟨w2,hw2⟩:∃ w2,w2=w1.setRow w.heap.size (L.toArray.toList.take 0++X++L.toArray.toList.drop (0+X.length)).toArray:=⟨_,rfl⟩
 rw [<-hw2] at hc1
 have hb2:Below w.heap.size w w2:=by rw [hw2]; exact below_setRow hb1 (Nat.le_refl _) _
 have HG2:Hid (w2.heap[w.heap.size]? = some (.cells (List.replicate (min 1 c) (Value.int .i64 v)++L.drop (min 1 c)).toArray 3 (0,0))):=by
  refine Lib.hid ?_
  rw [hw2,setRow_heap w1 w.heap.size _ _ _ _ HG1.out,HXl,HX.out]
  simp
 rw [HXl] at hc1
 clear hw2
 go_wp2_with fail
 go_loopw [8] (fun s8 wr=>∃ n:Nat,n<=c/\(1<=n\/c=0)/\s8=.int .i64 n/\Hid (wr.heap[w.heap.size]? = some (.cells (List.replicate n (Value.int .i64 v)++L.drop n).toArray 3 (0,0)))/\Hid (Below w.heap.size w wr)) (fun s8 _=>c - (intOf s8).toNat)
 case atStart=>exact ⟨min 1 c,by omega,by omega,rfl,HG2,Lib.hid hb2⟩
 case round =>
  obtain ⟨n,hn1,hn2,rfl,HG,HB⟩:=hrel
  by_cases hlt:n < c
  ·have hltz:(n:Int) < (c:Int):=by omega
   obtain ⟨Y,hY⟩:∃ Y,Y=List.replicate n (Value.int .i64 v)++L.drop n:=⟨_,rfl⟩
   obtain ⟨Z,hZ⟩:∃ Z,Z=List.replicate (min n (c - n)) (Value.int .i64 v):=⟨_,rfl⟩
   have hYl:Y.length=c:=by rw [hY]; simp; omega
   have hZl:Z.length=min n (c - n):=by rw [hZ]; simp
   rw [<-hY] at HG
   have HYY:=Lib.hid hY; have HZZ:=Lib.hid hZ; clear hY hZ
   have hsrc:∀ j u,Z[j]? = some u->wr.cell? ⟨w.heap.size,j,none⟩=some u:=fun j u hj=>by
    rw [HZZ.out] at hj
    have hjl:=(List.getElem?_eq_some_iff.1 hj).1
    rw [List.length_replicate] at hjl
    rw [List.getElem?_replicate,if_pos hjl] at hj
    rw [cell_of_row wr _ _ _ _ _ HG.out,HYY.out,List.getElem?_toArray,List.getElem?_append_left (by simp; omega),List.getElem?_replicate,if_pos (by omega)]
    exact hj
   have hcn:¬ c=n:=by omega
   have hdr:(wr.drew).heap[w.heap.size]? = some (.cells Y.toArray 3 (0,0)):=HG.out
   have hc2:=run_copy_row (P:=Tryz.prog) wr.drew 31 31 3 3 w.heap.size n (c - n) (c - n) ⟨w.heap.size,0,none⟩ n c Y.toArray 3 Z Tryz.underlying31 (by kernel_rfl) hdr (by rw [hZl])
    (fun j u hj=>by rw [Addr.add_lit,Nat.zero_add]; exact hsrc j u hj) (by show n+Z.length<=Y.toArray.size; rw [List.size_toArray]; omega) (fun u hu=>by rw [HZZ.out] at hu; rw [(List.mem_replicate.1 hu).2]; rfl)
   obtain ⟨w4,hw4⟩:∃ w4,w4=wr.drew.setRow w.heap.size (Y.toArray.toList.take n++Z++Y.toArray.toList.drop (n+Z.length)).toArray:=⟨_,rfl⟩
   rw [<-hw4] at hc2
   have hbd:Below w.heap.size w wr.drew:=⟨HB.out.os,HB.out.tape,HB.out.output,HB.out.size,HB.out.block⟩
   have hb4:Below w.heap.size w w4:=by rw [hw4]; exact below_setRow hbd (Nat.le_refl _) _
   have HG4:Hid (w4.heap[w.heap.size]? = some (.cells (List.replicate (n+min n (c - n)) (Value.int .i64 v)++L.drop (n+min n (c - n))).toArray 3 (0,0))):=by
    refine Lib.hid ?_
    rw [hw4,setRow_heap wr.drew w.heap.size _ _ _ _ hdr]
    congr 3
    rw [hZl,HZZ.out,HYY.out]
    have e1:(List.replicate n (Value.int .i64 v)++L.drop n).take n=List.replicate n (Value.int .i64 v):=by rw [List.take_append_of_le_length (by simp),List.take_of_length_le (by simp)]
    have e2:(List.replicate n (Value.int .i64 v)++L.drop n).drop (n+min n (c - n))=L.drop (n+min n (c - n)):=by
     rw [List.drop_append,List.drop_of_length_le (by simp),List.nil_append,List.drop_drop,List.length_replicate]
     congr 1; omega
    simp only [e1,e2,List.replicate_append_replicate]
   rw [hZl] at hc2
   clear hw4 hdr hsrc
   go_wp2_with fail
   go_region
   go_wp2
   go_roundw
   case rel=>exact ⟨n+min n (c - n),by omega,by omega,by go_num,HG4,Lib.hid hb4⟩
   case measure=>simp [intOf]; omega
  ·have hltz:¬ (n:Int) < (c:Int):=by omega
   obtain rfl:n=c:=by omega
   go_wp2
   go_ret
   refine ⟨_,rfl,Nat.le_refl _,?_,HB.out⟩
   have:=HG.out
   rw [List.drop_eq_nil_of_le (by omega),List.append_nil] at this
   exact this
end Go.Proofs.YtcbionahcldlnaaGreat
namespace Go.Proofs.YtcbionahcldlnaaGreat.DW
open Go.RowKit
theorem repeatG_fn (v:Int) (c:Nat) (hc:c<=1048576):FnG Tryz.prog 104 [⟨tInts,[v]⟩,⟨.int,(c:Int)⟩] 3 .int (List.replicate c v):=by
 refine ⟨enters Tryz.func104 rfl rfl,fun w vs S _ ha=>?_⟩
 match vs,ha with
 | [v0,v1],⟨⟨f0,⟨cs,hpk,hr⟩,_⟩,⟨f1,h1,_⟩,_⟩ =>
  obtain rfl:=drep_int h1
  obtain rfl:=pk_one rfl hpk
  obtain ⟨ad,cp,hcs,hc1,hc2,⟨hnil,_⟩|⟨b,off,fps,_,rfl,_,hE⟩⟩:=hr
  ·cases hnil
  injection hcs with hcs _
  subst hcs
  obtain ⟨f,cs,_,hrp,hcell⟩:=hE.2 0 v rfl
  obtain ⟨rfl,_,hI⟩:=hrp
  have hv:w.cell? ⟨b,off,none⟩=some (.int .i64 v):=by simpa using hcell 0 _ rfl
  refine (repeat_any v b off cp c w (cell_lt hv) hv hc).mono ?_
  rintro e w' ⟨g,rfl,hgb,hg,hb⟩
  refine ⟨hb,_,List.replicate c [],rfl,rfl,?_,by rw [show (List.replicate c ([]:List Nat)).flatten=[] by simp]; exact ownFp_nil _ _,fun b hb=>by simp at hb⟩
  have hs1:(Ty.int).rp.size=1:=rfl
  refine ⟨List.replicate c (.int .i64 v),⟨by rw [hs1]; simp,.inr ⟨g,c,_,by simp,hgb,hg,by simp,Nat.le_trans hc (by decide),by rw [hs1]; simp,by rw [hs1]; simp⟩⟩,by simp,fun i x hx=>?_⟩
  rw [List.getElem?_replicate] at hx
  split at hx
  ·rename_i hi
   injection hx with hx
   subst hx
   refine ⟨[],[.int .i64 v],by rw [List.getElem?_replicate,if_pos hi],⟨rfl,rfl,hI⟩,fun j u hj=>?_⟩
   match j,hj with
   | 0,hj =>
    injection hj with hj
    subst hj
    rw [List.getElem?_replicate,if_pos (by show i * 1+0 < c; omega)]
  ·cases hx
def negs (o:List Int):Nat:=(o.filter fun x=>decide (x < 0)).length
def ptE (nx:Int) (d:DV) (s:List Int × Bool) (e:DV):List Int × Bool:=if e.2=d.2/\ni s.1 e.1.toNat < 0 then (s.1.set e.1.toNat nx,true) else s
def ptJ (nx:Int) (d:DV) (ds:List DV) (s:List Int × Bool):Nat->List Int × Bool
 | 0=>s
 | j+1=>ptE nx d (ptJ nx d ds s j) (nth (t:=tVec) ds j)
def ptD (nx:Int) (ds:List DV) (s:List Int × Bool) (d:DV):List Int × Bool:=if ni s.1 d.1.toNat=nx then ptJ nx d ds s ds.length else s
def ptI (nx:Int) (ds:List DV) (o:List Int):Nat->List Int × Bool
 | 0=>(o,false)
 | i+1=>ptD nx ds (ptI nx ds o i) (nth (t:=tVec) ds i)
def ptR (nx:Int) (ds:List DV) (o:List Int):List Int × Bool:=ptI nx ds o ds.length
def Dn (o:List Int) (s:List Int × Bool):Prop:=s.1.length=o.length/\negs s.1<=negs o/\(s.2=true->negs s.1 < negs o)
theorem negs_set {o:List Int} {i:Nat} {x:Int} (hi:i < o.length) (h:ni o i < 0) (hx:0<=x):negs (o.set i x) < negs o:=by
 induction o generalizing i with
 | nil=>cases hi
 | cons a o ih =>
  cases i with
  | zero =>
   have h:a < 0:=h
   show ((x :: o).filter _).length < ((a :: o).filter _).length
   rw [List.filter_cons_of_neg (by simpa using hx),List.filter_cons_of_pos (by simpa using h),List.length_cons]
   exact Nat.lt_succ_self _
  | succ i =>
   have:=ih (i:=i) (by simpa using hi) h
   show ((a :: o.set i x).filter _).length < ((a :: o).filter _).length
   unfold negs at this
   by_cases ha:a < 0
   ·rw [List.filter_cons_of_pos (by simpa using ha),List.filter_cons_of_pos (by simpa using ha),List.length_cons,List.length_cons]; omega
   ·rw [List.filter_cons_of_neg (by simpa using ha),List.filter_cons_of_neg (by simpa using ha)]; exact this
variable {nx:Int} {ds:List DV} {o:List Int}
theorem ptE_dn {d e:DV} {s:List Int × Bool} (h:Dn o s) (he:e.1.toNat < o.length) (hn:0<=nx):Dn o (ptE nx d s e):=by
 unfold ptE
 split
 ·rename_i hc
  have:=negs_set (by rw [h.1]; exact he) hc.2 hn
  exact ⟨by rw [List.length_set]; exact h.1,Nat.le_trans (Nat.le_of_lt this) h.2.1,fun _=>Nat.lt_of_lt_of_le this h.2.1⟩
 ·exact h
theorem ptJ_dn {d:DV} {s:List Int × Bool} (h:Dn o s) (hd:∀ e ∈ ds,e.1.toNat < o.length) (hn:0<=nx):∀ j,j<=ds.length->Dn o (ptJ nx d ds s j)
 | 0,_=>h
 | j+1,hj=>ptE_dn (ptJ_dn h hd hn j (by omega)) (hd _ (nth_mem (i:=j) (by omega))) hn
theorem ptI_dn (hd:∀ e ∈ ds,e.1.toNat < o.length) (hn:0<=nx):∀ i,i<=ds.length->Dn o (ptI nx ds o i)
 | 0,_=>⟨rfl,Nat.le_refl _,fun h=>by cases h⟩
 | i+1,hi=>by
  show Dn o (ptD nx ds (ptI nx ds o i) (nth (t:=tVec) ds i))
  unfold ptD
  split
  ·exact ptJ_dn (ptI_dn hd hn i (by omega)) hd hn _ (Nat.le_refl _)
  ·exact ptI_dn hd hn i (by omega)
theorem ptR_dn (hd:∀ e ∈ ds,e.1.toNat < o.length) (hn:0<=nx):Dn o (ptR nx ds o):=ptI_dn hd hn _ (Nat.le_refl _)
def ptW (nx:Int) (ds:List DV) (o:List Int):List Int :=
 if h:(ptR nx ds o).2=true/\negs (ptR nx ds o).1 < negs o then ptW nx ds (ptR nx ds o).1 else (ptR nx ds o).1
termination_by negs o
decreasing_by exact h.2
theorem ptW_t (hd:∀ e ∈ ds,e.1.toNat < o.length) (hn:0<=nx) (h:(ptR nx ds o).2=true):ptW nx ds o=ptW nx ds (ptR nx ds o).1:=by
 rw [ptW,dif_pos ⟨h,(ptR_dn hd hn).2.2 h⟩]
theorem ptW_f (h:(ptR nx ds o).2=false):ptW nx ds o=(ptR nx ds o).1:=by
 rw [ptW,dif_neg (fun k=>by rw [h] at k; cases k.1)]
theorem ptW_len (hd:∀ e ∈ ds,e.1.toNat < o.length) (hn:0<=nx):(ptW nx ds o).length=o.length:=by
 induction hN:negs o using Nat.strongRecOn generalizing o with
 | _ N ih =>
  have hR:=ptR_dn hd hn
  cases hb:(ptR nx ds o).2
  ·rw [ptW_f hb]; exact hR.1
  ·rw [ptW_t hd hn hb,ih _ (hN ▸ hR.2.2 hb) (by rw [hR.1]; exact hd) rfl]; exact hR.1
def poS (ds:List DV) (s:List Int × Int) (k:Nat):List Int × Int:=if 0<=ni s.1 k then s else (ptW s.2 ds (s.1.set k s.2),s.2+1)
def poI (n:Nat) (ds:List DV):Nat->List Int × Int
 | 0=>(List.replicate n (-1),0)
 | k+1=>poS ds (poI n ds k) k
def ptsD (n:Nat) (ds:List DV):List Int:=(poI n ds n).1
theorem poI_ok {n:Nat} (hd:∀ e ∈ ds,e.1.toNat < n):∀ k,(poI n ds k).1.length=n/\0<=(poI n ds k).2/\(poI n ds k).2<=k
 | 0=>⟨by show (List.replicate n (-1:Int)).length=n; simp,Int.le_refl _,Int.le_refl _⟩
 | k+1=>by
  obtain ⟨h1,h2,h3⟩:=poI_ok hd k
  show (poS ds (poI n ds k) k).1.length=n/\0<=(poS ds (poI n ds k) k).2/\(poS ds (poI n ds k) k).2<=((k+1:Nat):Int)
  unfold poS
  split
  ·exact ⟨h1,h2,by omega⟩
  ·exact ⟨(ptW_len (by rw [List.length_set,h1]; exact hd) h2).trans (by rw [List.length_set,h1]),by dsimp only; omega,by dsimp only; omega⟩
set_option maxHeartbeats 16000000 in
theorem partsOf_fn (n:Nat) (ds:List DV) (hd:∀ e ∈ ds,0<=((e.1:Int))/\((e.1:Int)) < n) (hn:n<=1048576):Fn Tryz.prog 50 [⟨.int,(n:Int)⟩,⟨.slice tVec,ds⟩] true [⟨tInts,ptsD n ds⟩]:=by
 have hd2:∀ e ∈ ds,e.1.toNat < n:=fun e he=>by obtain ⟨h1,h2⟩:=hd e he; omega
 have c1:=repeatG_fn (-1) n hn
 unfold ptsD
 refine fe Tryz.func50 Tryz.ntmps50 Tryz.results50 fun hwf=>?_
 have hdl:ds.length<=9223372036854775807:=(hwf ⟨.slice tVec,ds⟩ (by simp)).1
 try simp (maxSteps:=9^9) only[go_sem]
 repeat refine AI ?_
 refine CallW.g (c1) ?_
 try simp (maxSteps:=9^9) only[go_sem]
 refine LoopG.intro _ _ _ (fun k:Nat=>⟨[(1,.sl tVec ds),(5,.row 0 0),(6,.sc (.int .i64 (poI n ds k).2)),(17,.sc (.int .i64 n)),(18,.sc (.int .i64 k))],[(0,.row 3 .int 0 true (poI n ds k).1)]⟩) (fun k=>k<=n) (fun k=>n - k) 0 ?_ (Nat.zero_le _) ?_
 ·refine Wk.mk [(0,1)] ?_
  try simp (maxSteps:=9^9) only[go_sem]
  try (and_intros<;>first|rfl|omega|exact ⟨_,rfl⟩)
 ·rintro k hk
  obtain ⟨g1,g2,g3⟩:=poI_ok hd2 k
  have e:poI n ds (k+1)=if 0<=ni (poI n ds k).1 k then poI n ds k else (ptW (poI n ds k).2 ds ((poI n ds k).1.set k (poI n ds k).2),(poI n ds k).2+1):=rfl
  have hre:(poI n ds k).1.length=n:=g1
  try simp (maxSteps:=9^9) only[go_sem]
  refine CondW_dec (fun hA=>?_) (fun hA=>?_)
  ·have hkt:k < n:=by omega
   try simp (maxSteps:=9^9) only[go_sem]
   repeat refine AI ?_
   refine CondW_dec (fun hB=>?_) (fun hB=>?_)
   ·rw [if_pos hB] at e
    try simp (maxSteps:=9^9) only[go_sem]
    repeat refine AI ?_
    refine LoopK.mk (k+1) ?_ (by omega) (by omega)
    rw [e]
    exact WK
   ·rw [if_neg hB] at e
    generalize hnx:(poI n ds k).2=nx at *
    generalize ho0:(poI n ds k).1=o0 at *
    have hO:∀ o:List Int,o.length=n->∀ x ∈ ds,x.1.toNat < o.length:=fun o ho x hx=>by rw [ho]; exact hd2 x hx
    try simp (maxSteps:=9^9) only[go_sem]
    repeat refine AI ?_
    refine LoopG.intro _ _ _ (fun s:List Int × Bool=>⟨[(1,.sl tVec ds),(5,.row 0 0),(6,.sc (.int .i64 nx)),(8,.sc (.bool s.2)),(17,.sc (.int .i64 n)),(18,.sc (.int .i64 k))],[(0,.row 3 .int 0 true s.1)]⟩) (fun s=>s.1.length=n/\(if s.2=true then ptW nx ds s.1 else s.1)=ptW nx ds (o0.set k nx)) (fun s=>if s.2=true then negs s.1+1 else 0) (o0.set k nx,true) ?_ ⟨by rw [List.length_set]; exact hre,if_pos rfl⟩ ?_
    ·exact WK
    ·rintro ⟨o,b⟩ ⟨hol,hoe⟩
     dsimp only at hol hoe
     cases b
     ·rw [if_neg (fun h=>by cases h)] at hoe
      try simp (maxSteps:=9^9) only[go_sem]
      repeat refine AI ?_
      refine LoopK.mk (k+1) ?_ (by omega) (by omega)
      rw [e,<-hoe]
      exact WK
     ·rw [if_pos rfl] at hoe
      have hOo:=hO o hol
      have hR:=ptR_dn (nx:=nx) hOo g2
      try simp (maxSteps:=9^9) only[go_sem]
      refine LoopG.intro _ _ _ (fun i:Nat=>⟨[(1,.sl tVec ds),(5,.row 0 0),(6,.sc (.int .i64 nx)),(8,.sc (.bool (ptI nx ds o i).2)),(17,.sc (.int .i64 n)),(18,.sc (.int .i64 k)),(31,.sl tVec ds),(32,.sc (.int .i64 ds.length)),(33,.sc (.int .i64 i))],[(0,.row 3 .int 0 true (ptI nx ds o i).1)]⟩) (fun i=>i<=ds.length) (fun i=>ds.length - i) 0 ?_ (Nat.zero_le _) ?_
      ·exact WK
      ·rintro i hi
       have hI:=ptI_dn (nx:=nx) hOo g2 i hi
       have hIl:=hI.1.trans hol
       try simp (maxSteps:=9^9) only[go_sem]
       refine CondW_dec (fun hC=>?_) (fun hC=>?_)
       ·have hit:i < ds.length:=by omega
        obtain ⟨q1,q2⟩:=hd _ (nth_mem hit)
        have q3:=hd2 _ (nth_mem hit)
        have e2:ptI nx ds o (i+1)=if ni (ptI nx ds o i).1 (nth (t:=tVec) ds i).1.toNat=nx then ptJ nx (nth (t:=tVec) ds i) ds (ptI nx ds o i) ds.length else ptI nx ds o i:=rfl
        by_cases hq:ni (ptI nx ds o i).1 (nth (t:=tVec) ds i).1.toNat=nx
        rotate_left
        ·have d1:=decide_eq_false hq
         rw [if_neg hq] at e2
         try simp (maxSteps:=9^9) only[go_sem,d1]
         repeat refine AI ?_
         try simp (maxSteps:=9^9) only[go_sem,d1]
         repeat refine AI ?_
         refine LoopK.mk (i+1) ?_ (by omega) (by omega)
         rw [e2]
         exact WK
        have d1:=decide_eq_true hq
        rw [if_pos hq] at e2
        try simp (maxSteps:=9^9) only[go_sem,d1]
        repeat refine AI ?_
        try simp (maxSteps:=9^9) only[go_sem,d1]
        repeat refine AI ?_
        refine LoopG.intro _ _ _ (fun j:Nat=>⟨[(1,.sl tVec ds),(5,.row 0 0),(6,.sc (.int .i64 nx)),(8,.sc (.bool (ptJ nx (nth (t:=tVec) ds i) ds (ptI nx ds o i) j).2)),(10,.ptr 1 0),(17,.sc (.int .i64 n)),(18,.sc (.int .i64 k)),(31,.sl tVec ds),(32,.sc (.int .i64 ds.length)),(33,.sc (.int .i64 i)),(44,.sl tVec ds),(45,.sc (.int .i64 ds.length)),(46,.sc (.int .i64 j))],[(0,.row 3 .int 0 true (ptJ nx (nth (t:=tVec) ds i) ds (ptI nx ds o i) j).1),(1,.box [.sc (.int .i64 (nth (t:=tVec) ds i).1),.sc (.int .i64 (nth (t:=tVec) ds i).2)])]⟩) (fun j=>j<=ds.length) (fun j=>ds.length - j) 0 ?_ (Nat.zero_le _) ?_
        ·exact WK
        ·rintro j hj
         have hJ:=ptJ_dn (d:=nth (t:=tVec) ds i) hI hOo g2 j hj
         have hJl:=hJ.1.trans hol
         try simp (maxSteps:=9^9) only[go_sem]
         refine CondW_dec (fun hD=>?_) (fun hD=>?_)
         ·have hjt:j < ds.length:=by omega
          obtain ⟨r1,r2⟩:=hd _ (nth_mem hjt)
          have r3:=hd2 _ (nth_mem hjt)
          have e3:ptJ nx (nth (t:=tVec) ds i) ds (ptI nx ds o i) (j+1)=if (nth (t:=tVec) ds j).2=(nth (t:=tVec) ds i).2/\ni (ptJ nx (nth (t:=tVec) ds i) ds (ptI nx ds o i) j).1 (nth (t:=tVec) ds j).1.toNat < 0 then ((ptJ nx (nth (t:=tVec) ds i) ds (ptI nx ds o i) j).1.set (nth (t:=tVec) ds j).1.toNat nx,true) else ptJ nx (nth (t:=tVec) ds i) ds (ptI nx ds o i) j:=rfl
          by_cases hx:(nth (t:=tVec) ds j).2=(nth (t:=tVec) ds i).2
          rotate_left
          ·have d2:=decide_eq_false hx
           rw [if_neg (fun h=>hx h.1)] at e3
           try simp (maxSteps:=9^9) only[go_sem,d2]
           repeat refine AI ?_
           try simp (maxSteps:=9^9) only[go_sem,d2]
           repeat refine AI ?_
           refine LoopK.mk (j+1) ?_ (by omega) (by omega)
           rw [e3]
           exact WK
          have d2:=decide_eq_true hx
          by_cases hy:ni (ptJ nx (nth (t:=tVec) ds i) ds (ptI nx ds o i) j).1 (nth (t:=tVec) ds j).1.toNat < 0
          rotate_left
          ·have d3:=decide_eq_false hy
           rw [if_neg (fun h=>hy h.2)] at e3
           try simp (maxSteps:=9^9) only[go_sem,d2]
           repeat refine AI ?_
           try simp (maxSteps:=9^9) only[go_sem,d2,d3]
           repeat refine AI ?_
           try simp (maxSteps:=9^9) only[go_sem,d2,d3]
           repeat refine AI ?_
           refine LoopK.mk (j+1) ?_ (by omega) (by omega)
           rw [e3]
           exact WK
          have d3:=decide_eq_true hy
          rw [if_pos ⟨hx,hy⟩] at e3
          try simp (maxSteps:=9^9) only[go_sem,d2]
          repeat refine AI ?_
          try simp (maxSteps:=9^9) only[go_sem,d2,d3]
          repeat refine AI ?_
          try simp (maxSteps:=9^9) only[go_sem,d2,d3]
          repeat refine AI ?_
          refine LoopK.mk (j+1) ?_ (by omega) (by omega)
          rw [e3]
          exact WK
         ·obtain rfl:j=ds.length:=by omega
          try simp (maxSteps:=9^9) only[go_sem]
          repeat refine AI ?_
          refine LoopK.mk (i+1) ?_ (by omega) (by omega)
          rw [e2]
          exact WK
       ·obtain rfl:i=ds.length:=by omega
        have hRf:ptI nx ds o ds.length=ptR nx ds o:=rfl
        rw [hRf]
        try simp (maxSteps:=9^9) only[go_sem]
        refine LoopK.mk (ptR nx ds o) ?_ ?_ ?_
        ·exact WK
        ·refine ⟨hR.1.trans hol,?_⟩
         cases hb:(ptR nx ds o).2
         ·rw [if_neg (fun h=>by cases h),<-hoe,ptW_f hb]
         ·rw [if_pos rfl,<-hoe,ptW_t hOo g2 hb]
        ·cases hb:(ptR nx ds o).2
         ·rw [if_neg (fun h=>by cases h)]; exact Nat.succ_pos _
         ·rw [if_pos rfl]; exact Nat.succ_lt_succ (hR.2.2 hb)
  ·obtain rfl:k=n:=by omega
   try simp (maxSteps:=9^9) only[go_sem]
   all_goals repeat refine AI ?_
   all_goals first|kernel_rfl|omega|rfl
end Go.Proofs.YtcbionahcldlnaaGreat.DW

namespace Go.Proofs.YtcbionahcldlnaaGreat
open Go.RowKit
namespace DW
end DW
end Go.Proofs.YtcbionahcldlnaaGreat

namespace Go.Proofs.YtcbionahcldlnaaGreat.DW
open Go.RowKit
@[go_sem] theorem bts_VecS:bts Tryz.prog 25=some 24:=by kernel_rfl
end Go.Proofs.YtcbionahcldlnaaGreat.DW

namespace Go.Proofs.YtcbionahcldlnaaGreat
open Go.RowKit
namespace DW
end DW
end Go.Proofs.YtcbionahcldlnaaGreat

namespace Go.Proofs.YtcbionahcldlnaaGreat.DW
open Go.RowKit
theorem boxEq_Box:boxEq Tryz.prog 52:=by
 refine ⟨by kernel_rfl,fun w a b a2 b2 c d c2 d2=>?_⟩
 have hv:vecTy Tryz.prog 24=true:=by kernel_rfl
 have hp:Tryz.prog.stoodInHeld 52=false:=by kernel_rfl
 have hu:=Tryz.underlying52
 rw [show (10000:Nat)=9997+1+1+1 from rfl,run_equalIn_agg w _ 52 _ _ (by simp [Program.fieldsOf,hu]) hp]
 have q:=fun n w a b c d=>vec_eq_at (P:=Tryz.prog) hv n w a b c d
 have ag:∀ w,(isAgg 24).run Tryz.prog w=.ok true w:=Tryz.isAgg24
 have sz:∀ w,(Go.sizeOf 24).run Tryz.prog w=.ok 2 w:=Tryz.sizeOf24
 generalize 9997=n
 by_cases e1:a=c<;>by_cases e2:b=d<;>by_cases e3:a2=c2<;>by_cases e4:b2=d2<;>simp [Program.fieldsOf,hu,Op.eqFields,part,ag,sz,q,e1,e2,e3,e4]
@[go_sem] theorem boxEq_T:boxEq Tryz.prog 52=True:=eq_true boxEq_Box
set_option maxHeartbeats 1000000 in
theorem eqVecs_fn (a b:List DV):Fn Tryz.prog 67 [⟨.slice tVec,a⟩,⟨.slice tVec,b⟩] false [⟨.bool,eqb a b⟩]:=by
 by_cases h0:(a.length:Int)=b.length
 ·have d0:=decide_eq_true h0
  refine fe Tryz.func67 Tryz.ntmps67 Tryz.results67 fun hwf=>?_
  have hl:a.length<=9223372036854775807:=(hwf ⟨.slice tVec,a⟩ (by simp)).1
  try simp (maxSteps:=9^9) only[go_sem,d0]
  refine LoopG.intro _ _ _ (fun i:Nat=>⟨[(0,.sl tVec a),(1,.sl tVec b),(12,.sc (.int .i64 a.length)),(13,.sc (.int .i64 i))],[]⟩) (fun i=>∀ j,j < i->j < a.length->nth (t:=tVec) a j=nth (t:=tVec) b j) (fun i=>a.length - i) 0 ?_ (fun j h=>absurd h (Nat.not_lt_zero _)) ?_
  ·exact WK
  ·rintro i hi
   try simp (maxSteps:=9^9) only[go_sem]
   refine CondW_dec (fun hA=>?_) (fun hA=>?_)
   ·by_cases e:nth (t:=tVec) a i=nth (t:=tVec) b i
    ·have d1:(decide ((nth (t:=tVec) a i).1=(nth (t:=tVec) b i).1) && decide ((nth (t:=tVec) a i).2=(nth (t:=tVec) b i).2))=true:=by rw [e]; simp
     try simp (maxSteps:=9^9) only[go_sem,d1]
     repeat refine AI ?_
     try simp (maxSteps:=9^9) only[go_sem,d1]
     repeat refine AI ?_
     refine LoopK.mk (i+1) ?_ (fun j h1 h2=>?_) (by omega)
     ·exact WK
     ·by_cases h3:j < i
      ·exact hi j h3 h2
      ·rw [show j=i by omega]; exact e
    ·have d1:(decide ((nth (t:=tVec) a i).1=(nth (t:=tVec) b i).1) && decide ((nth (t:=tVec) a i).2=(nth (t:=tVec) b i).2))=false:=by
      rw [Bool.eq_false_iff]
      intro h
      rw [Bool.and_eq_true,decide_eq_true_eq,decide_eq_true_eq] at h
      exact e (Prod.ext h.1 h.2)
     rw [eqb_false (fun h=>e (by rw [h]))]
     try simp (maxSteps:=9^9) only[go_sem,d1]
     repeat refine AI ?_
     try simp (maxSteps:=9^9) only[go_sem,d1]
     all_goals repeat refine AI ?_
     all_goals first|kernel_rfl|omega|rfl
   ·have:a=b:=by
     refine List.ext_getElem (by omega) fun j h1 h2=>?_
     have:=hi j (by omega) h1
     rwa [nth_lt h1,nth_lt h2] at this
    rw [eqb_true this]
    try simp (maxSteps:=9^9) only[go_sem]
 ·have d0:=decide_eq_false h0
  rw [eqb_false (fun h=>h0 (by rw [h]))]
  refine fe Tryz.func67 Tryz.ntmps67 Tryz.results67 fun hwf=>?_
  try simp (maxSteps:=9^9) only[go_sem,d0]
theorem sameAreasC_fn (x y:List DV):Fn Tryz.prog 111 [⟨.slice tVec,x⟩,⟨.slice tVec,y⟩] false [⟨.bool,eqb x y⟩]:=by
 refine fe Tryz.func111 Tryz.ntmps111 Tryz.results111 fun hwf=>?_
 try simp (maxSteps:=9^9) only[go_sem]
 repeat refine AI ?_
 refine cw (eqVecs_fn x y) ?_
 try simp (maxSteps:=9^9) only[go_sem]
set_option maxHeartbeats 1000000 in
theorem eqFunc_vs_fn (F:FuncId) (hF:∀ x y:List DV,Fn Tryz.prog F [⟨.slice tVec,x⟩,⟨.slice tVec,y⟩] false [⟨.bool,eqb x y⟩]) (a b:List (List DV)):Fn Tryz.prog 110 [⟨.slice (.slice tVec),a⟩,⟨.slice (.slice tVec),b⟩,⟨.cst (.fn F),()⟩] false [⟨.bool,eqb a b⟩]:=by
 by_cases h0:(a.length:Int)=b.length
 ·have d0:=decide_eq_true h0
  refine fe Tryz.func110 Tryz.ntmps110 Tryz.results110 fun hwf=>?_
  have hl:a.length<=9223372036854775807:=(hwf ⟨.slice (.slice tVec),a⟩ (by simp)).1
  try simp (maxSteps:=9^9) only[go_sem,d0]
  refine LoopG.intro _ _ _ (fun i:Nat=>⟨[(1,.sl (.slice tVec) b),(2,.sc (.func (.func F) #[] #[])),(15,.sl (.slice tVec) a),(16,.sc (.int .i64 a.length)),(17,.sc (.int .i64 i))],[]⟩) (fun i=>∀ j,j < i->j < a.length->nth (t:=.slice tVec) a j=nth (t:=.slice tVec) b j) (fun i=>a.length - i) 0 ?_ (fun j h=>absurd h (Nat.not_lt_zero _)) ?_
  ·exact WK
  ·rintro i hi
   try simp (maxSteps:=9^9) only[go_sem]
   refine CondW_dec (fun hA=>?_) (fun hA=>?_)
   ·have c1:=hF (nth (t:=.slice tVec) a i) (nth (t:=.slice tVec) b i)
    by_cases e:nth (t:=.slice tVec) a i=nth (t:=.slice tVec) b i
    ·rw [eqb_true e] at c1
     try simp (maxSteps:=9^9) only[go_sem]
     repeat refine AI ?_
     repeat refine AI ?_
     refine cw c1 ?_
     try simp (maxSteps:=9^9) only[go_sem]
     repeat refine AI ?_
     refine LoopK.mk (i+1) ?_ (fun j h1 h2=>?_) (by omega)
     ·exact WK
     ·by_cases h3:j < i
      ·exact hi j h3 h2
      ·rw [show j=i by omega]; exact e
    ·rw [eqb_false e] at c1
     rw [eqb_false (fun h=>e (by rw [h]))]
     try simp (maxSteps:=9^9) only[go_sem]
     repeat refine AI ?_
     repeat refine AI ?_
     refine cw c1 ?_
     try simp (maxSteps:=9^9) only[go_sem]
     all_goals repeat refine AI ?_
     all_goals first|kernel_rfl|omega|rfl
   ·have:a=b:=by
     refine List.ext_getElem (by omega) fun j h1 h2=>?_
     have:=hi j (by omega) h1
     rwa [nth_lt h1,nth_lt h2] at this
    rw [eqb_true this]
    try simp (maxSteps:=9^9) only[go_sem]
    all_goals repeat refine AI ?_
    all_goals first|kernel_rfl|omega|rfl
 ·have d0:=decide_eq_false h0
  rw [eqb_false (fun h=>h0 (by rw [h]))]
  refine fe Tryz.func110 Tryz.ntmps110 Tryz.results110 fun hwf=>?_
  try simp (maxSteps:=9^9) only[go_sem,d0]
  all_goals repeat refine AI ?_
  all_goals first|kernel_rfl|omega|rfl
theorem sameAreas_fn (a b:List (List DV)):Fn Tryz.prog 68 [⟨.slice (.slice tVec),a⟩,⟨.slice (.slice tVec),b⟩] false [⟨.bool,eqb a b⟩]:=by
 have c1:=eqFunc_vs_fn 111 sameAreasC_fn a b
 refine fe Tryz.func68 Tryz.ntmps68 Tryz.results68 fun hwf=>?_
 try simp (maxSteps:=9^9) only[go_sem]
 repeat refine AI ?_
 repeat refine AI ?_
 refine cw c1 ?_
 try simp (maxSteps:=9^9) only[go_sem]
 all_goals repeat refine AI ?_
 all_goals first|kernel_rfl|omega|rfl
abbrev DSl:=tSlice.den
def frmP (x y:DSl):Prop:=x.1=y.1/\x.2.1=y.2.1/\x.2.2.1=y.2.2.1/\x.2.2.2.1=y.2.2.2.1
set_option maxHeartbeats 2000000 in
theorem sameFrame_fn (x y:DSl):Fn Tryz.prog 61 [⟨tSlice,x⟩,⟨tSlice,y⟩] false [⟨.bool,bdec (frmP x y)⟩]:=by
 obtain ⟨xh,xo,⟨⟨x1,x2⟩,⟨x3,x4⟩⟩,xa,xr⟩:=x
 obtain ⟨yh,yo,⟨⟨y1,y2⟩,⟨y3,y4⟩⟩,ya,yr⟩:=y
 have c1:=sameAreas_fn xa ya
 by_cases e1:xh=yh
 rotate_left
 ·rw [bdec_f (fun h=>e1 h.1)]
  have d1:=decide_eq_false e1
  refine fe Tryz.func61 Tryz.ntmps61 Tryz.results61 fun hwf=>?_
  try simp (maxSteps:=9^9) only[go_sem,d1]
  all_goals repeat refine AI ?_
  all_goals first|kernel_rfl|omega|rfl
 have d1:=decide_eq_true e1
 by_cases e2:xo=yo
 rotate_left
 ·rw [bdec_f (fun h=>e2 h.2.1)]
  have d2:(xo == yo)=false:=by cases xo<;>cases yo<;>simp_all
  refine fe Tryz.func61 Tryz.ntmps61 Tryz.results61 fun hwf=>?_
  try simp (maxSteps:=9^9) only[go_sem,d1]
  try simp (maxSteps:=9^9) only[go_sem,d1,d2]
  all_goals repeat refine AI ?_
  all_goals first|kernel_rfl|omega|rfl
 have d2:(xo == yo)=true:=by rw [e2]; exact beq_self_eq_true yo
 by_cases e3:x1=y1/\x2=y2/\x3=y3/\x4=y4
 rotate_left
 ·rw [bdec_f (fun h=>e3 (by have h:=h.2.2.1; injection h with h5 h6; injection h5 with h1 h2; injection h6 with h3 h4; exact ⟨h1,h2,h3,h4⟩))]
  have d3:=decide_eq_false e3
  refine fe Tryz.func61 Tryz.ntmps61 Tryz.results61 fun hwf=>?_
  try simp (maxSteps:=9^9) only[go_sem,d1,d2]
  try simp (maxSteps:=9^9) only[go_sem,d1,d2,d3]
  all_goals repeat refine AI ?_
  all_goals first|kernel_rfl|omega|rfl
 have d3:=decide_eq_true e3
 obtain ⟨rfl,rfl,rfl,rfl⟩:=e3
 by_cases e4:xa=ya
 ·rw [bdec_t ⟨e1,e2,rfl,e4⟩]
  rw [eqb_true e4] at c1
  refine fe Tryz.func61 Tryz.ntmps61 Tryz.results61 fun hwf=>?_
  try simp (maxSteps:=9^9) only[go_sem,d1,d2,d3]
  repeat refine AI ?_
  repeat refine AI ?_
  refine cw c1 ?_
  try simp (maxSteps:=9^9) only[go_sem]
  all_goals repeat refine AI ?_
  all_goals first|kernel_rfl|omega|rfl
 ·rw [bdec_f (fun h=>e4 h.2.2.2)]
  rw [eqb_false e4] at c1
  refine fe Tryz.func61 Tryz.ntmps61 Tryz.results61 fun hwf=>?_
  try simp (maxSteps:=9^9) only[go_sem,d1,d2,d3]
  repeat refine AI ?_
  repeat refine AI ?_
  refine cw c1 ?_
  try simp (maxSteps:=9^9) only[go_sem]
  all_goals repeat refine AI ?_
  all_goals first|kernel_rfl|omega|rfl
abbrev DSn:=tScene.den
abbrev DRd:=tRoad.den
def frmE (op:Int->Bool) (bx:Int->DV × DV) (ar:Int->List (List DV)) (h:Int):DSl:=(h,op h,bx h,(if op h=true then ar h else []),[],[],[],[])
open Classical in
noncomputable def chgD (em:Int->DSl) (l:List DSl):Nat->List Int
 | 0=>[]
 | k+1=>if k < l.length/\frmP (nth (t:=tSlice) l k) (em k) then chgD em l k else chgD em l k++[(k:Int)]
theorem chgD_len (em:Int->DSl) (l:List DSl):∀ k,(chgD em l k).length<=k
 | 0=>Nat.le_refl _
 | k+1=>by
  have:=chgD_len em l k
  rw [chgD]
  split
  ·omega
  ·rw [List.length_append,List.length_singleton]; omega
section
variable {s:DSn} {op:Int->Bool} {bx:Int->DV × DV} {ar:Int->List (List DV)}
theorem emptySlice_fn (hz:∀ h,op h=false->bx h=((0,0),(0,0))) (c1:∀ h:Int,Fn Tryz.prog 84 [⟨tScene,s⟩,⟨.int,h⟩] false [⟨tBox,bx h⟩,⟨.bool,op h⟩]) (c2:∀ h:Int,Fn Tryz.prog 85 [⟨tScene,s⟩,⟨.int,h⟩] true [⟨tVecSS,ar h⟩]) (h:Int):Fn Tryz.prog 45 [⟨tScene,s⟩,⟨.int,h⟩] false [⟨tSlice,frmE op bx ar h⟩]:=by
 have c1:=c1 h
 have c2:=c2 h
 have hz:=hz h
 unfold frmE
 generalize op h=o at *
 generalize bx h=b at *
 generalize ar h=a at *
 cases o
 ·have hz:=hz rfl
  subst hz
  refine fe Tryz.func45 Tryz.ntmps45 Tryz.results45 fun hwf=>?_
  try simp (maxSteps:=9^9) only[go_sem]
  repeat refine AI ?_
  refine cw c1 ?_
  try simp (maxSteps:=9^9) only[go_sem]
 ·refine fe Tryz.func45 Tryz.ntmps45 Tryz.results45 fun hwf=>?_
  try simp (maxSteps:=9^9) only[go_sem]
  repeat refine AI ?_
  refine cw c1 ?_
  try simp (maxSteps:=9^9) only[go_sem]
  repeat refine AI ?_
  refine cw c2 ?_
  try simp (maxSteps:=9^9) only[go_sem]
  all_goals repeat refine AI ?_
  all_goals first|kernel_rfl|omega|rfl
set_option maxHeartbeats 2000000 in
theorem changed_fn (r:DRd) {em:Int->DSl} (c1:∀ h:Int,Fn Tryz.prog 45 [⟨tScene,s⟩,⟨.int,h⟩] false [⟨tSlice,em h⟩]):Fn Tryz.prog 24 [⟨tRoad,r⟩,⟨tScene,s⟩] true [⟨tInts,chgD em r.2.1 4⟩]:=by
 refine fe Tryz.func24 Tryz.ntmps24 Tryz.results24 fun hwf=>?_
 try simp (maxSteps:=9^9) only[go_sem]
 refine LoopG.intro _ _ _ (fun k:Nat=>⟨[(2,.ptr 0 0),(3,.ptr 1 0),(4,.sc (.slice none 0 0)),(5,.row 2 0),(8,.sc (.int .i64 k))],[(2,.row 3 .int 0 true (chgD em r.2.1 k)),(1,.box [.sc (.int .i64 s.1.1),.sc (.int .i64 s.1.2),.sc (.int .i64 s.2.1.1),.sc (.int .i64 s.2.1.2),.sl tVec s.2.2.1,.sl (.slice tVec) s.2.2.2.1,.sl tVec s.2.2.2.2]),(0,.box [.sc (.int .i64 r.1.1.1),.sc (.int .i64 r.1.1.2),.sc (.int .i64 r.1.2.1.1),.sc (.int .i64 r.1.2.1.2),.sl tVec r.1.2.2.1,.sl (.slice tVec) r.1.2.2.2.1,.sl tVec r.1.2.2.2.2,.sl tSlice r.2.1,.sl .int r.2.2.1,.sl tInts r.2.2.2])]⟩) (fun k=>k<=4) (fun k=>4 - k) 0 ?_ (Nat.zero_le _) ?_
 ·exact WK
 ·rintro k hk
  have hlen:=chgD_len em r.2.1 k
  try simp (maxSteps:=9^9) only[go_sem]
  refine CondW_dec (fun hA=>?_) (fun hA=>?_)
  ·try simp (maxSteps:=9^9) only[go_sem]
   by_cases h1:k < r.2.1.length
   ·have hI:¬ (r.2.1.length:Int)<=(k:Int):=by omega
    have c2:=sameFrame_fn (nth (t:=tSlice) r.2.1 k) (em k)
    refine GuardW_decf (fun _=>?_) (fun h=>absurd h hI)
    by_cases hf:frmP (nth (t:=tSlice) r.2.1 k) (em k)
    ·have e:chgD em r.2.1 (k+1)=chgD em r.2.1 k:=if_pos ⟨h1,hf⟩
     rw [bdec_t hf] at c2
     try simp (maxSteps:=9^9) only[go_sem]
     refine ⟨by omega,by omega,CallW.mk (c1 k) ?_⟩
     try simp (maxSteps:=9^9) only[go_sem]
     repeat refine AI ?_
     refine cw c2 ?_
     try simp (maxSteps:=9^9) only[go_sem]
     repeat refine AI ?_
     refine LoopK.mk (k+1) ?_ (by omega) (by omega)
     rw [e]
     exact WK
    ·have e:chgD em r.2.1 (k+1)=chgD em r.2.1 k++[(k:Int)]:=if_neg fun h=>hf h.2
     rw [bdec_f hf] at c2
     try simp (maxSteps:=9^9) only[go_sem]
     refine ⟨by omega,by omega,CallW.mk (c1 k) ?_⟩
     try simp (maxSteps:=9^9) only[go_sem]
     repeat refine AI ?_
     refine cw c2 ?_
     try simp (maxSteps:=9^9) only[go_sem]
     repeat refine AI ?_
     refine LoopK.mk (k+1) ?_ (by omega) (by omega)
     rw [e]
     exact WK
   ·have hI:(r.2.1.length:Int)<=(k:Int):=by omega
    have e:chgD em r.2.1 (k+1)=chgD em r.2.1 k++[(k:Int)]:=if_neg fun h=>h1 h.1
    refine GuardW_decf (fun h=>absurd hI h) (fun _=>?_)
    try simp (maxSteps:=9^9) only[go_sem]
    repeat refine AI ?_
    refine LoopK.mk (k+1) ?_ (by omega) (by omega)
    rw [e]
    exact WK
  ·obtain rfl:k=4:=by omega
   try simp (maxSteps:=9^9) only[go_sem]
set_option maxHeartbeats 2000000 in
theorem ChangedI_g (r:DRd) {em:Int->DSl} {vb:Bool} (cv:Fn Tryz.prog 13 [⟨tScene,s⟩] false [⟨.bool,vb⟩]) (c1:∀ h:Int,Fn Tryz.prog 45 [⟨tScene,s⟩,⟨.int,h⟩] false [⟨tSlice,em h⟩]):Fn Tryz.prog 10 [⟨tRoad,r⟩,⟨tScene,s⟩] true [⟨tInts,if vb=true then chgD em r.2.1 4 else []⟩]:=by
 have c2:=changed_fn r c1
 cases vb
 ·refine fe Tryz.func10 Tryz.ntmps10 Tryz.results10 fun hwf=>?_
  try simp (maxSteps:=9^9) only[go_sem]
  repeat refine AI ?_
  refine cw cv ?_
  try simp (maxSteps:=9^9) only[go_sem]
  all_goals repeat refine AI ?_
  all_goals first|kernel_rfl|omega|rfl
 ·refine fe Tryz.func10 Tryz.ntmps10 Tryz.results10 fun hwf=>?_
  try simp (maxSteps:=9^9) only[go_sem]
  repeat refine AI ?_
  refine cw cv ?_
  try simp (maxSteps:=9^9) only[go_sem]
  repeat refine AI ?_
  refine cw c2 ?_
  try simp (maxSteps:=9^9) only[go_sem]
  all_goals repeat refine AI ?_
  all_goals first|kernel_rfl|omega|rfl
end
abbrev tSliceN:Ty:=.prod .int (.prod .bool (.prod tBox (.prod tVecSS (.prod (.cst .nil) (.prod (.cst .nil) (.prod (.cst .nil) (.cst .nil)))))))
theorem emptySliceN_fn (s:DSn) (h:Int) (o:Bool) (b:DV × DV) (a:List (List DV)) (hz:o=false->b=((0,0),(0,0))) (c1:Fn Tryz.prog 84 [⟨tScene,s⟩,⟨.int,h⟩] false [⟨tBox,b⟩,⟨.bool,o⟩]) (c2:Fn Tryz.prog 85 [⟨tScene,s⟩,⟨.int,h⟩] true [⟨tVecSS,a⟩]):Fn Tryz.prog 45 [⟨tScene,s⟩,⟨.int,h⟩] false [⟨tSliceN,(h,o,b,(if o=true then a else []),(),(),(),())⟩]:=by
 cases o
 ·have hz:=hz rfl
  subst hz
  refine fe Tryz.func45 Tryz.ntmps45 Tryz.results45 fun hwf=>?_
  try simp (maxSteps:=9^9) only[go_sem]
  repeat refine AI ?_
  refine cw c1 ?_
  try simp (maxSteps:=9^9) only[go_sem]
 ·refine fe Tryz.func45 Tryz.ntmps45 Tryz.results45 fun hwf=>?_
  try simp (maxSteps:=9^9) only[go_sem]
  repeat refine AI ?_
  refine cw c1 ?_
  try simp (maxSteps:=9^9) only[go_sem]
  repeat refine AI ?_
  refine cw c2 ?_
  try simp (maxSteps:=9^9) only[go_sem]
  all_goals repeat refine AI ?_
  all_goals first|kernel_rfl|omega|rfl
noncomputable def clI' (b:DV × DV) (a:List (List DV)) (ev:List DR):Nat->List DCl
 | 0=>[]
 | k+1=>clI' b a ev k++slbD b a (rdO (nth (t:=tRat) ev k)) (rdO (nth (t:=tRat) ev (k+1)))
noncomputable def wwI (b:DV × DV) (a:List (List DV)) (ev:List DR):Nat->List DWl
 | 0=>[]
 | k+1=>if k+2 < ev.length then wwI b a ev k++walD b a (rdO (nth (t:=tRat) ev (k+1))) else wwI b a ev k
noncomputable def drJ (C:DCl) (i:Int) (W:List DWl) (D:List DV):Nat->List DV
 | 0=>D
 | j+1=>if cmD C (nth (t:=tWall) W j)=true then drJ C i W D j++[(i,(j:Int))] else drJ C i W D j
noncomputable def drI (C:List DCl) (W:List DWl):Nat->List DV
 | 0=>[]
 | i+1=>drJ (nth (t:=tCell) C i) i W (drI C W i) W.length
noncomputable def cllD (b:DV × DV) (a:List (List DV)):List DCl:=clI' b a (evD b a) ((evD b a).length - 1)
noncomputable def wllD (b:DV × DV) (a:List (List DV)):List DWl:=wwI b a (evD b a) ((evD b a).length - 1)
noncomputable def drsD (b:DV × DV) (a:List (List DV)):List DV:=drI (cllD b a) (wllD b a) (cllD b a).length
noncomputable def slcD (h:Int) (o:Bool) (b:DV × DV) (a:List (List DV)):DSl :=
 if o=true then (h,true,b,a,cllD b a,wllD b a,drsD b a,ptsD (cllD b a).length (drsD b a)) else (h,false,((0,0),(0,0)),[],[],[],[],[])
theorem scA_ok {lo hi:Option Rat} {ce x y:DP} {l:List DCl} (h1:okO lo) (h2:okO hi) (hc:gB ce) (hx:gB x) (hy:gB y) (hl:∀ k ∈ l,gC k):∀ k ∈ scA lo hi ce l x y,gC k:=by
 intro k hk
 unfold scA at hk
 split at hk
 ·rcases List.mem_append.1 hk with hk|hk
  ·exact hl k hk
  ·rw [List.mem_singleton.1 hk]
   refine ⟨gF_oD h1,gF_oD h2,hx.1,hx.2,?_,?_⟩
   ·dsimp only; split
    ·exact hc.1
    ·exact hy.1
   ·dsimp only; split
    ·exact hc.2
    ·exact hy.2
 ·exact hl k hk
theorem slI_cok {S:List DK} (hS:∀ s ∈ S,gK s) {lo hi:Option Rat} {fl ce:DP} (h1:okO lo) (h2:okO hi) (hf:gB fl) (hc:gB ce):∀ k,k<=S.length->∀ c ∈ (slI S lo hi fl ce k).2,gC c
 | 0,_=>fun c hk=>by cases hk
 | k+1,hk=>scA_ok h1 h2 hc (slI_ok hS lo hi hf k (by omega)) (hS _ (nth_in (t:=tBlck) (i:=k) (by omega))).1 (slI_cok hS h1 h2 hf hc k (by omega))
theorem slbD_ok {b:DV × DV} {l:List (List DV)} {lo hi:Option Rat} (hb:b.1.2.natAbs<=1000000/\b.2.2.natAbs<=1000000) (h1:okO lo) (h2:okO hi):∀ c ∈ slbD b l lo hi,gC c:=by
 have k1:=flB_ok hb.1
 have k2:=flB_ok hb.2
 exact scA_ok h1 h2 k2 (slI_ok (blkD_ok l lo hi) lo hi k1 _ (Nat.le_refl _)) k2 (slI_cok (blkD_ok l lo hi) h1 h2 k1 k2 _ (Nat.le_refl _))
theorem clI_ok {b:DV × DV} {a:List (List DV)} {ev:List DR} (hb:b.1.2.natAbs<=1000000/\b.2.2.natAbs<=1000000):∀ k,∀ c ∈ clI' b a ev k,gC c
 | 0=>fun c hk=>by cases hk
 | k+1=>fun c hc=>by
  rcases List.mem_append.1 (show c ∈ clI' b a ev k++_ from hc) with hc|hc
  ·exact clI_ok hb k c hc
  ·exact slbD_ok hb (okO_rdO _) (okO_rdO _) c hc
theorem clI_len (b:DV × DV) (a:List (List DV)) (ev:List DR) (ha:a.length<=4):∀ k,(clI' b a ev k).length<=5 * k
 | 0=>Nat.le_refl _
 | k+1=>by
  have h1:=clI_len b a ev ha k
  have h2:=slbD_len b a (rdO (nth (t:=tRat) ev k)) (rdO (nth (t:=tRat) ev (k+1)))
  rw [clI',List.length_append]; omega
theorem wlA_ok {x top cur y:Option Rat} {l:List DWl} (hx:okO x) (ht:okO top) (hc:okO cur) (hy:okO y) (hl:∀ w ∈ l,gW w):∀ w ∈ wlA x top cur l y,gW w:=by
 intro w hw
 unfold wlA at hw
 split at hw
 ·rcases List.mem_append.1 hw with hw|hw
  ·exact hl w hw
  ·rw [List.mem_singleton.1 hw]
   exact ⟨gF_oD hx,gF_oD hc,gF_oD (okO_min hy ht)⟩
 ·exact hl w hw
theorem wlI_wok {S:List DP} {x low top:Option Rat} (hx:okO x) (h1:okO low) (h2:okO top):∀ k,∀ w ∈ (wlI S x low top k).2,gW w
 | 0=>fun w hw=>by cases hw
 | k+1=>wlA_ok hx h2 (wlI_ok h1 k) (okO_rdO _) (wlI_wok hx h1 h2 k)
theorem walD_ok {b:DV × DV} {l:List (List DV)} {x:Option Rat} (hb:b.1.2.natAbs<=1000000/\b.2.2.natAbs<=1000000) (hx:okO x):∀ w ∈ walD b l x,gW w :=
 wlA_ok hx (okO_in hb.2) (wlI_ok (okO_in hb.1) _) (okO_in hb.2) (wlI_wok hx (okO_in hb.1) (okO_in hb.2) _)
theorem walD_len (b:DV × DV) (l:List (List DV)) (x:Option Rat):(walD b l x).length<=l.length+1 :=
 Nat.le_trans (wlA_len _ _ _ _ _) (Nat.succ_le_succ (Nat.le_trans (wlI_len _ _ _ _ _) (scS_len _ _)))
theorem wwI_ok {b:DV × DV} {a:List (List DV)} {ev:List DR} (hb:b.1.2.natAbs<=1000000/\b.2.2.natAbs<=1000000):∀ k,∀ w ∈ wwI b a ev k,gW w
 | 0=>fun w hk=>by cases hk
 | k+1=>fun w hw=>by
  rw [wwI] at hw
  split at hw
  ·rcases List.mem_append.1 hw with hw|hw
   ·exact wwI_ok hb k w hw
   ·exact walD_ok hb (okO_rdO _) w hw
  ·exact wwI_ok hb k w hw
theorem wwI_len (b:DV × DV) (a:List (List DV)) (ev:List DR) (ha:a.length<=4):∀ k,(wwI b a ev k).length<=5 * k
 | 0=>Nat.le_refl _
 | k+1=>by
  have h1:=wwI_len b a ev ha k
  have h2:=walD_len b a (rdO (nth (t:=tRat) ev (k+1)))
  rw [wwI]
  split
  ·rw [List.length_append]; omega
  ·omega
theorem drJ_len (C:DCl) (i:Int) (W:List DWl) (D:List DV):∀ j,(drJ C i W D j).length<=D.length+j
 | 0=>Nat.le_refl _
 | j+1=>by
  have:=drJ_len C i W D j
  rw [drJ]
  split
  ·rw [List.length_append,List.length_singleton]; omega
  ·omega
theorem drI_len (C:List DCl) (W:List DWl) (hW:W.length<=200000):∀ i,(drI C W i).length<=200000 * i
 | 0=>Nat.le_refl _
 | i+1=>by
  have h1:=drI_len C W hW i
  have h2:=drJ_len (nth (t:=tCell) C i) i W (drI C W i) W.length
  rw [drI]; omega
theorem drJ_ok {C:DCl} {i:Int} {W:List DWl} {D:List DV} {n:Nat} (hi:0<=i/\i < n) (hD:∀ e ∈ D,0<=((e.1:Int))/\((e.1:Int)) < n):∀ j,∀ e ∈ drJ C i W D j,0<=((e.1:Int))/\((e.1:Int)) < n
 | 0=>hD
 | j+1=>fun e he=>by
  rw [drJ] at he
  split at he
  ·rcases List.mem_append.1 he with he|he
   ·exact drJ_ok hi hD j e he
   ·rw [List.mem_singleton.1 he]; exact hi
  ·exact drJ_ok hi hD j e he
theorem drI_ok (C:List DCl) (W:List DWl):∀ i,i<=C.length->∀ e ∈ drI C W i,0<=((e.1:Int))/\((e.1:Int)) < (C.length:Int)
 | 0,_=>fun e he=>by cases he
 | i+1,hi=>drJ_ok ⟨by omega,by omega⟩ (drI_ok C W i (by omega)) _
theorem evD_len {b:DV × DV} {l:List (List DV)} (hp:∀ a ∈ l,polyB a=true) (hl:l.length<=4):(evD b l).length<=30000:=by
 have h1:=cmQ_len (srQ (evL b l))
 rw [srQ_len] at h1
 have h2:=evQ_len (lo:=inQ b.1.1) (hi:=inQ b.2.1) hp l.length (Nat.le_refl _)
 have h3:=edA_len l (fun a ha=>polyB_len (hp a ha)) l.length (Nat.le_refl _)
 have h3:(edsD l).length<=16 * l.length:=h3
 have h4:=evF_len (inQ b.1.1) (inQ b.2.1) b.1.2 b.2.2 (evQ (inQ b.1.1) (inQ b.2.1) l l.length) (edsD l) (edsD l).length (by omega)
 have h5:(evL b l).length=(evF (inQ b.1.1) (inQ b.2.1) b.1.2 b.2.2 (evQ (inQ b.1.1) (inQ b.2.1) l l.length) (edsD l) (edsD l).length).length+2:=by
  unfold evL; rw [List.length_append]; rfl
 unfold evD
 omega
theorem evD_ok {b:DV × DV} {l:List (List DV)} (hb:b.1.1.natAbs<=1000000/\b.2.1.natAbs<=1000000) (hp:∀ a ∈ l,polyB a=true):∀ r ∈ evD b l,gV r:=fun r hr=>evL_ok hb hp r (srQ_mem.1 (cmQ_mem hr))
theorem andI_rng (a:Int) {m:Int} (h0:0<=m) (h1:m<=9223372036854775807):0<=andI a m/\andI a m<=m:=by
 have hle:(BitVec.ofInt 64 a &&& BitVec.ofInt 64 m).toNat<=m.toNat:=by
  rw [BitVec.toNat_and]
  refine Nat.le_trans Nat.and_le_right ?_
  rw [BitVec.toNat_ofInt]
  have h64:((2 ^ 64:Nat):Int)=18446744073709551616:=by decide
  have:m % ((2 ^ 64:Nat):Int)=m:=Int.emod_eq_of_lt h0 (by omega)
  rw [this]
  exact Nat.le_refl _
 unfold andI
 rw [wrap_I64 (by constructor<;>omega)]
 omega
def tyW:TypeId->Option Ty
 | 3=>some .int
 | 5=>some .u8
 | 22=>some (.slice .u8)
 | 76=>some tCur
 | _=>none
theorem tabOKW:TabOK Tryz.prog tyW:=by
 intro ty t h
 unfold tyW at h
 split at h
 all_goals first|cases h; done|(injection h with h; subst h; exact tyOK (by kernel_rfl) (by kernel_rfl))
attribute [go_sem] tyW
theorem wildW:wild tyW:=by
 intro ty h
 unfold tyW at h
 split at h<;>cases h
@[go_sem] theorem aBin_wild {P:Program} {lt:Nat->Option AV} {K:Eff->Prop} {op:BinOp} {ty:TypeId} {x y:Operand}:aBin P tyW lt K op ty x y=aBinX P lt K op ty x y:=if_pos wildW
def nu (l:List Int) (i:Nat):Int:=nth (t:=.u8) l i
@[go_sem] theorem nth_u8 (l:List Int) (i:Nat):@nth .u8 l i=nu l i:=(rfl)
structure Cu (code:List Int) where
 i:Nat
 h:Int
 hi:i<=code.length
 hh:I64 h
def stH (h:Int):Int:=IntKind.i64.wrap (IntKind.i64.wrap (h * 6364136223846793005)+1442695040888963407)
def stX (h:Int):Int:=andI (xorI (h.fdiv (2 ^ 33)) (h.fdiv (2 ^ 45))) 255
theorem stX_rng (h:Int):0<=stX h/\stX h<=255:=andI_rng _ (by decide) (by decide)
variable {code:List Int}
def Cu.next (c:Cu code):Cu code:=⟨if c.i < code.length then c.i+1 else c.i,stH c.h,by have:=c.hi; split<;>omega,wrap_in _⟩
def Cu.byte (c:Cu code):Int:=if c.i < code.length then andI (stX (stH c.h)+nu code c.i) 255 else stX (stH c.h)
theorem Cu.byte_rng (c:Cu code):0<=c.byte/\c.byte<=255:=by
 unfold Cu.byte
 split
 ·exact andI_rng _ (by decide) (by decide)
 ·exact stX_rng _
@[reducible] def cz (c:Cu code):List Value:=[.int .i64 c.i,.int .i64 c.h]
theorem cz_one (c:Cu code):∀ z ∈ cz c,z.oneCell'=true:=by
 intro z hz
 rcases List.mem_cons.1 hz with rfl|hz
 ·rfl
 ·rw [List.mem_singleton.1 hz]; rfl
theorem cz_ok (hc:code.length<=1048576) (c:Cu code):∀ z ∈ cz c,z.oneCell'=true/\okv z:=by
 intro z hz
 have:=c.hi
 rcases List.mem_cons.1 hz with rfl|hz
 ·exact ⟨rfl,by show I64 (c.i:Int); constructor<;>omega⟩
 ·rw [List.mem_singleton.1 hz]; exact ⟨rfl,c.hh⟩
abbrev Dr (f:FuncId) (c c':Cu code) (args:List Dat) (own:Bool) (d:Dat):Prop:=FnC Tryz.prog f .u8 code (cz c) (cz c') args own d
theorem u8_at (hw:Wf (.slice .u8) code) {i:Nat} (h:i < code.length):0<=nu code i/\nu code i<=255:=by
 rw [nu,nth_lt h]; exact hw.2 _ (List.getElem_mem h)
set_option maxHeartbeats 1000000 in
theorem l01Byte_fn (hc:code.length<=1048576) (c:Cu code):Dr 23 c c.next [] false ⟨.int,c.byte⟩:=by
 have hi:=c.hi
 have h1:=c.hh.1
 have h2:=c.hh.2
 have h3:=c.next.hh.1
 have h4:=c.next.hh.2
 have h5:=c.next.hi
 by_cases hlt:c.i < code.length
 ·have e1:c.next.i=c.i+1:=if_pos hlt
  have e2:c.byte=andI (stX (stH c.h)+nu code c.i) 255:=if_pos hlt
  rw [e2]
  refine fnC_enter tabOKW mixes Tryz.func23 rfl rfl _ Tryz.ntmps23 _ Tryz.results23 (by simp) (cz_ok hc _) (cz_one _) fun b u0 hwl hzs hwf=>?_
  have hu:=u8_at hwl hlt
  have hx:=stX_rng (stH c.h)
  unfold stX stH at hx
  have d1:decide ((c.i:Int) < (code.length:Int))=true:=decide_eq_true (by omega)
  have w1:IntKind.i64.wrap ((c.i:Int)+1)=(c.i:Int)+1:=wrap_I64 (by constructor<;>omega)
  have w2:=wrap_I64 (n:=andI (xorI ((IntKind.i64.wrap (IntKind.i64.wrap (c.h * 6364136223846793005)+1442695040888963407)).fdiv (2 ^ 33)) ((IntKind.i64.wrap (IntKind.i64.wrap (c.h * 6364136223846793005)+1442695040888963407)).fdiv (2 ^ 45))) 255+nu code c.i) (by constructor<;>omega)
  try simp (maxSteps:=9^9) only[go_sem]
  repeat refine AI ?_
  try simp (maxSteps:=9^9) only[go_sem,d1,w1,w2,e1]
  repeat refine AI ?_
  and_intros
  all_goals first|rfl|omega
 ·have e1:c.next.i=c.i:=if_neg hlt
  have e2:c.byte=stX (stH c.h):=if_neg hlt
  rw [e2]
  refine fnC_enter tabOKW mixes Tryz.func23 rfl rfl _ Tryz.ntmps23 _ Tryz.results23 (by simp) (cz_ok hc _) (cz_one _) fun b u0 hwl hzs hwf=>?_
  have hx:=stX_rng (stH c.h)
  have d1:decide ((c.i:Int) < (code.length:Int))=false:=decide_eq_false (by omega)
  try simp (maxSteps:=9^9) only[go_sem]
  repeat refine AI ?_
  try simp (maxSteps:=9^9) only[go_sem,d1]
  repeat refine AI ?_
  try simp (maxSteps:=9^9) only[go_sem,e1]
  and_intros
  all_goals first|rfl|omega
def Cu.below (c:Cu code) (n:Int):Int:=c.byte % n
theorem Cu.below_rng (c:Cu code) {n:Int} (h:1<=n):0<=c.below n/\c.below n < n:=⟨Int.emod_nonneg _ (by omega),Int.emod_lt_of_pos _ (by omega)⟩
theorem l01Below_fn (hc:code.length<=1048576) (c:Cu code) (n:Int) (h:1<=n/\n<=256):Dr 33 c c.next [⟨.int,n⟩] false ⟨.int,c.below n⟩:=by
 have hb:=c.byte_rng
 have d1:decide (n<=0)=false:=decide_eq_false (by omega)
 have d2:decide (n<=256)=true:=decide_eq_true (by omega)
 refine fnC_enter tabOK mixes Tryz.func33 rfl rfl _ Tryz.ntmps33 _ Tryz.results33 (by simp) (cz_ok hc _) (cz_one _) fun b u0 hwl hzs hwf=>?_
 try simp (maxSteps:=9^9) only[go_sem,d1,d2]
 repeat refine AI ?_
 refine CallW.c false (l01Byte_fn hc c) ?_
 try simp (maxSteps:=9^9) only[go_sem]
 refine RemW.pos hb.1 (by omega) ?_
 try simp (maxSteps:=9^9) only[go_sem]
 rfl
theorem l01Once_fn (hc:code.length<=1048576) (c:Cu code) (n:Int) (h:1<=n/\n<=256):Dr 36 c c.next [⟨.int,n⟩] false ⟨.bool,decide (c.below n=0)⟩:=by
 refine fnC_enter tabOK mixes Tryz.func36 rfl rfl _ Tryz.ntmps36 _ Tryz.results36 (by simp) (cz_ok hc _) (cz_one _) fun b u0 hwl hzs hwf=>?_
 try simp (maxSteps:=9^9) only[go_sem]
 repeat refine AI ?_
 refine CallW.c false (l01Below_fn hc c n h) ?_
 try simp (maxSteps:=9^9) only[go_sem]
def h0 (code:List Int):Nat->Int
 | 0=>1952+code.length
 | k+1=>andI (h0 code k * 61+nu code k+7) 1073741823
theorem h0_rng (hc:code.length<=1048576) (k:Nat):0<=h0 code k/\h0 code k<=1073741823:=by
 cases k with
 | zero=>show 0<=1952+(code.length:Int)/\1952+(code.length:Int)<=1073741823; omega
 | succ k=>exact andI_rng _ (by decide) (by decide)
def Cu.new (code:List Int) (hc:code.length<=1048576):Cu code:=⟨0,h0 code (min code.length 4000),Nat.zero_le _,by have:=h0_rng hc (min code.length 4000); constructor<;>omega⟩
theorem l01New_fn (hc:code.length<=1048576):FnN Tryz.prog 12 .u8 code (cz (Cu.new code hc)) []:=by
 refine fnN_enter tabOK mixes Tryz.func12 rfl rfl _ Tryz.ntmps12 _ Tryz.results12 (by simp) (cz_ok hc _) fun u0 hwl hwf=>?_
 try simp (maxSteps:=9^9) only[go_sem]
 repeat refine AI ?_
 refine LoopG.intro _ _ _ (fun i:Nat=>⟨[(0,.fx u0 .u8 code),(3,.sc (.int .i64 (h0 code i))),(4,.sc (.int .i64 i))],[]⟩) (fun i=>i<=code.length/\i<=4000) (fun i=>code.length - i) 0 ?_ ⟨Nat.zero_le _,Nat.zero_le _⟩ ?_
 ·exact WK
 ·rintro i ⟨hi,hi2⟩
  have hr:=h0_rng hc i
  try simp (maxSteps:=9^9) only[go_sem]
  refine GuardW_dec (fun hA=>?_) (fun hA=>?_)
  ·try simp (maxSteps:=9^9) only[go_sem]
   refine CondW_dec (fun hB=>?_) (fun hB=>?_)
   ·have hu:=u8_at hwl (show i < code.length by omega)
    try simp (maxSteps:=9^9) only[go_sem]
    repeat refine AI ?_
    try simp (maxSteps:=9^9) only[go_sem]
    repeat refine AI ?_
    refine LoopK.mk (i+1) ?_ ⟨by omega,by omega⟩ (by omega)
    exact WK
   ·have e:min code.length 4000=i:=by omega
    try simp (maxSteps:=9^9) only[go_sem]
    exact ⟨rfl,by show h0 code i=h0 code (min code.length 4000); rw [e]⟩
  ·have e:min code.length 4000=i:=by omega
   try simp (maxSteps:=9^9) only[go_sem]
   exact ⟨rfl,by show h0 code i=h0 code (min code.length 4000); rw [e]⟩
def Cu.skip (c:Cu code):Nat->Cu code
 | 0=>c
 | k+1=>(c.skip k).next
def Cu.at (code:List Int) (hc:code.length<=1048576) (n:Int):Cu code:=(Cu.new code hc).skip n.toNat
theorem l31New_fn (hc:code.length<=1048576) (n:Int) (hn:0<=n/\n<=1000):FnN Tryz.prog 22 .u8 code (cz (Cu.at code hc n)) [⟨.int,n⟩]:=by
 refine fnN_enter tabOK mixes Tryz.func22 rfl rfl _ Tryz.ntmps22 _ Tryz.results22 (by simp) (cz_ok hc _) fun u0 hwl hwf=>?_
 try simp (maxSteps:=9^9) only[go_sem]
 repeat refine AI ?_
 refine CallW.nb (l01New_fn hc) ?_
 try simp (maxSteps:=9^9) only[go_sem]
 refine LoopG.intro _ _ _ (fun i:Nat=>⟨[(1,.sc (.int .i64 n)),(5,.ptr 0 0),(6,.sc (.int .i64 i))],[(0,.box (.fx u0 .u8 code :: (cz ((Cu.new code hc).skip i)).map fun z=>.sc z))]⟩) (fun i=>(i:Int)<=n) (fun i=>n.toNat - i) 0 ?_ (by omega) ?_
 ·exact WK
 ·rintro i hi
  try simp (maxSteps:=9^9) only[go_sem]
  refine CondW_dec (fun hA=>?_) (fun hA=>?_)
  ·try simp (maxSteps:=9^9) only[go_sem]
   repeat refine AI ?_
   refine CallW.c false (l01Byte_fn hc ((Cu.new code hc).skip i)) ?_
   try simp (maxSteps:=9^9) only[go_sem]
   repeat refine AI ?_
   refine LoopK.mk (i+1) ?_ (by omega) (by omega)
   exact WK
  ·have e:n.toNat=i:=by omega
   try simp (maxSteps:=9^9) only[go_sem]
   unfold Cu.at
   rw [e]
   exact ⟨rfl,rfl⟩
def mkNum (code:List Int) (hc:code.length<=1048576) (n:Int):Int:=(Cu.at code hc n).byte * 256+(Cu.at code hc n).next.byte
theorem mkNum_rng (hc:code.length<=1048576) (n:Int):0<=mkNum code hc n/\mkNum code hc n<=65535:=by
 have b1:=(Cu.at code hc n).byte_rng
 have b2:=(Cu.at code hc n).next.byte_rng
 unfold mkNum
 omega
theorem MakeNum_fn (hc:code.length<=1048576) (n:Int) (hn:0<=n/\n<=1000):Fn Tryz.prog 7 [⟨.slice .u8,code⟩,⟨.int,n⟩] false [⟨.int,mkNum code hc n⟩]:=by
 have b1:=(Cu.at code hc n).byte_rng
 have b2:=(Cu.at code hc n).next.byte_rng
 refine fe Tryz.func7 Tryz.ntmps7 Tryz.results7 fun hwf=>?_
 try simp (maxSteps:=9^9) only[go_sem]
 repeat refine AI ?_
 refine CallW.nb (l31New_fn hc n hn) ?_
 try simp (maxSteps:=9^9) only[go_sem]
 repeat refine AI ?_
 refine CallW.c false (l01Byte_fn hc (Cu.at code hc n)) ?_
 try simp (maxSteps:=9^9) only[go_sem]
 repeat refine AI ?_
 repeat refine AI ?_
 refine CallW.c false (l01Byte_fn hc (Cu.at code hc n).next) ?_
 try simp (maxSteps:=9^9) only[go_sem]
 all_goals repeat refine AI ?_
 all_goals first|kernel_rfl|omega|rfl
variable {code:List Int}
def pvC (c:Cu code):Nat->Cu code
 | 0=>c
 | k+1=>(pvC c k).next.next
def pvL (c:Cu code) (m:Int):Nat->List DV
 | 0=>[]
 | k+1=>pvL c m k++[((pvC c k).below (2 * m+1) - m,(pvC c k).next.below (2 * m+1) - m)]
theorem pvL_len (c:Cu code) (m:Int):∀ k,(pvL c m k).length=k
 | 0=>rfl
 | k+1=>by rw [pvL,List.length_append,pvL_len c m k]; rfl
theorem pvL_in (c:Cu code) {m:Int} (hm:0<=m):∀ k,∀ v ∈ pvL c m k,inB m v=true
 | 0=>fun v hv=>by cases hv
 | k+1=>fun v hv=>by
  rw [pvL,List.mem_append,List.mem_singleton] at hv
  rcases hv with hv|rfl
  ·exact pvL_in c hm k v hv
  ·have h1:=(pvC c k).below_rng (n:=2 * m+1) (by omega)
   have h2:=(pvC c k).next.below_rng (n:=2 * m+1) (by omega)
   exact inB_of (by show -m<=_ - m; omega) (by show _ - m<=m; omega) (by show -m<=_ - m; omega) (by show _ - m<=m; omega)
def pgN (c:Cu code):Nat:=(3+c.below 3).toNat
theorem pgN_rng (c:Cu code):3<=pgN c/\pgN c<=5:=by
 have:=c.below_rng (n:=3) (by decide)
 unfold pgN; omega
def pgH (c:Cu code) (m:Int):List DV:=hullD (pvL c.next m (pgN c))
def pgC (c:Cu code):Cu code:=pvC c.next (pgN c)
def pgT:List DV:=[(-1,-1),(1,-1),(0,1)]
noncomputable def pgD (c:Cu code) (m:Int):Nat->List DV × Cu code
 | 0=>(pgT,c)
 | k+1=>if polyB (pgH c m)=true then (pgH c m,pgC c) else pgD (pgC c) m k
def pgS (c:Cu code):Nat->Cu code
 | 0=>c
 | k+1=>pgC (pgS c k)
theorem pgD_step (c:Cu code) (m:Int) {k:Nat} (hk:k < 8) (h:pgD c m 8=pgD (pgS c k) m (8 - k)):pgD c m 8=if polyB (pgH (pgS c k) m)=true then (pgH (pgS c k) m,pgC (pgS c k)) else pgD (pgS c (k+1)) m (8 - (k+1)):=by
 rw [h,show 8 - k=(8 - (k+1))+1 by omega]; rfl
set_option maxHeartbeats 1000000 in
theorem l06Draw_fn (hc:code.length<=1048576) (c:Cu code) (m:Int) (hm:1<=m/\m<=20):Dr 34 c (pgD c m 8).2 [⟨.int,m⟩] true ⟨.slice tVec,(pgD c m 8).1⟩:=by
 generalize hX:pgD c m 8=X
 refine fnC_enter tabOK mixes Tryz.func34 rfl rfl _ Tryz.ntmps34 _ Tryz.results34 (by simp) (cz_ok hc _) (cz_one _) fun b u0 hwl hzs hwf=>?_
 try simp (maxSteps:=9^9) only[go_sem]
 refine LoopG.intro _ _ _ (fun k:Nat=>⟨[(0,.ptr 0 0),(1,.sc (.int .i64 m)),(5,.sc (.int .i64 k))],[(0,.bx (some b) (.fx u0 .u8 code :: (cz (pgS c k)).map fun z=>.sc z))]⟩) (fun k=>k<=8/\X=pgD (pgS c k) m (8 - k)) (fun k=>8 - k) 0 ?_ ⟨by omega,hX.symm⟩ ?_
 ·exact WK
 ·rintro k ⟨hk,hk2⟩
  have hn:=pgN_rng (pgS c k)
  have hb3:=(pgS c k).below_rng (n:=3) (by decide)
  have eN:3+(pgS c k).below 3=(pgN (pgS c k):Int):=by unfold pgN; omega
  try simp (maxSteps:=9^9) only[go_sem]
  refine CondW_dec (fun hA=>?_) (fun hA=>?_)
  ·have hst:=pgD_step c m (k:=k) (by omega) (by rw [hX]; exact hk2)
   rw [hX] at hst
   try simp (maxSteps:=9^9) only[go_sem]
   repeat refine AI ?_
   refine CallW.c false (l01Below_fn hc (pgS c k) 3 (by omega)) ?_
   try simp (maxSteps:=9^9) only[go_sem]
   repeat refine AI ?_
   try simp (maxSteps:=9^9) only[go_sem,eN]
   repeat refine AI ?_
   refine LoopG.intro _ _ _ (fun j:Nat=>⟨[(0,.ptr 0 0),(1,.sc (.int .i64 m)),(5,.sc (.int .i64 k)),(6,.row 1 0),(7,.sc (.int .i64 ((pgN (pgS c k):Int) - j)))],[(0,.bx (some b) (.fx u0 .u8 code :: (cz (pvC (pgS c k).next j)).map fun z=>.sc z)),(1,.row 24 tVec 0 true (pvL (pgS c k).next m j))]⟩) (fun j=>j<=pgN (pgS c k)) (fun j=>pgN (pgS c k) - j) 0 ?_ (Nat.zero_le _) ?_
   ·exact WK
   ·rintro j hj
    have hjl:=pvL_len (pgS c k).next m j
    have r1:=(pvC (pgS c k).next j).below_rng (n:=2 * m+1) (by omega)
    have r2:=(pvC (pgS c k).next j).next.below_rng (n:=2 * m+1) (by omega)
    try simp (maxSteps:=9^9) only[go_sem]
    refine CondW_dec (fun hB=>?_) (fun hB=>?_)
    ·try simp (maxSteps:=9^9) only[go_sem]
     repeat refine AI ?_
     repeat refine AI ?_
     refine CallW.c false (l01Below_fn hc (pvC (pgS c k).next j) (2 * m+1) (by omega)) ?_
     try simp (maxSteps:=9^9) only[go_sem]
     repeat refine AI ?_
     repeat refine AI ?_
     refine CallW.c false (l01Below_fn hc (pvC (pgS c k).next j).next (2 * m+1) (by omega)) ?_
     try simp (maxSteps:=9^9) only[go_sem]
     try simp (maxSteps:=9^9) only[go_sem,hjl]
     repeat refine AI ?_
     refine LoopK.mk (j+1) ?_ (by omega) (by omega)
     rw [show pvL (pgS c k).next m (j+1)=pvL (pgS c k).next m j++[((pvC (pgS c k).next j).below (2 * m+1) - m,(pvC (pgS c k).next j).next.below (2 * m+1) - m)] from rfl]
     exact WK
    ·have ej:j=pgN (pgS c k):=by omega
     subst ej
     have hin:=pvL_in (pgS c k).next (m:=m) (by omega) (pgN (pgS c k))
     have c1:=specHull_fn (pvL (pgS c k).next m (pgN (pgS c k))) (fun v hv=>by have:=inB_b (hin v hv); exact inB_of (by omega) (by omega) (by omega) (by omega)) (by omega)
     have c2:=specIsPolygon_fn (pgH (pgS c k) m)
     rw [show hullD (pvL (pgS c k).next m (pgN (pgS c k)))=pgH (pgS c k) m from rfl] at c1
     cases hp:polyB (pgH (pgS c k) m)<;>rw [hp] at c2 hst
     ·try simp (maxSteps:=9^9) only[go_sem]
      repeat refine AI ?_
      refine cw c1 ?_
      try simp (maxSteps:=9^9) only[go_sem]
      repeat refine AI ?_
      refine cw c2 ?_
      try simp (maxSteps:=9^9) only[go_sem]
      repeat refine AI ?_
      refine LoopK.mk (k+1) ?_ ⟨by omega,hst⟩ (by omega)
      exact WK
     ·have e2:X=(pgH (pgS c k) m,pgC (pgS c k)):=hst
      rw [e2]
      try simp (maxSteps:=9^9) only[go_sem]
      repeat refine AI ?_
      refine cw c1 ?_
      try simp (maxSteps:=9^9) only[go_sem]
      repeat refine AI ?_
      refine cw c2 ?_
      try simp (maxSteps:=9^9) only[go_sem]
      exact ⟨rfl,rfl⟩
  ·have ek:k=8:=by omega
   subst ek
   have e2:X=(pgT,pgS c 8):=hk2
   rw [e2]
   try simp (maxSteps:=9^9) only[go_sem]
   all_goals repeat refine AI ?_
   all_goals first|kernel_rfl|omega|rfl
end Go.Proofs.YtcbionahcldlnaaGreat.DW

namespace Go.Proofs.YtcbionahcldlnaaGreat.DW
open Go.RowKit
end Go.Proofs.YtcbionahcldlnaaGreat.DW

namespace Go.Proofs.YtcbionahcldlnaaGreat.DW
open Go.RowKit
variable {code:List Int}
theorem cmpQ_le {p q:Rat}:cmpQ p q<=0 ↔ p<=q:=by
 unfold cmpQ
 by_cases h1:p < q
 ·simp [h1,Rat.le_of_lt h1]
 ·by_cases h2:q < p
  ·simp [h1,h2]; exact Rat.not_le.2 h2
  ·simp [h1,h2]; exact Rat.not_lt.1 h2
theorem minO_le {p q:Rat} (h:p<=q):minO (some p) (some q)=some p:=by
 show (if cmpQ p q<=0 then some p else some q)=_
 rw [if_pos (cmpQ_le.2 h)]
theorem minO_ge {p q:Rat} (h:q<=p):minO (some p) (some q)=some q:=by rw [minO_comm,minO_le h]
theorem minO_self (x:Option Rat):minO x x=x:=by
 cases x with
 | none=>rfl
 | some p=>exact minO_le Rat.le_refl
theorem minO_nr (x:Option Rat):minO x none=none:=by cases x<;>rfl
theorem minO_assoc (x y z:Option Rat):minO (minO x y) z=minO x (minO y z):=by
 cases x with
 | none=>cases y<;>cases z<;>rfl
 | some p =>
  cases y with
  | none=>cases z<;>rfl
  | some q =>
   cases z with
   | none=>rw [minO_nr,minO_nr,minO_nr]
   | some r =>
    rcases Rat.le_total (a:=p) (b:=q) with h1|h1
    ·rw [minO_le h1]
     rcases Rat.le_total (a:=q) (b:=r) with h2|h2
     ·rw [minO_le h2,minO_le h1,minO_le (Rat.le_trans h1 h2)]
     ·rw [minO_ge h2]
    ·rw [minO_ge h1]
     rcases Rat.le_total (a:=q) (b:=r) with h2|h2
     ·rw [minO_le h2,minO_ge h1]
     ·rw [minO_ge h2,minO_ge (Rat.le_trans h2 h1)]
noncomputable def edO (l:List DV) (p:DP) (i:Nat):Option Rat:=segD p (ptV (nth (t:=tVec) l i)) (ptV (nth (t:=tVec) l (nxt l.length i).toNat))
noncomputable def leS (l:List DV) (p:DP):Nat->Option Rat
 | 0=>edO l p 0
 | i+1=>minO (leS l p i) (edO l p i)
noncomputable def leI (l:List DV) (p:DP):Nat->Option Rat
 | 0=>edO l p (l.length - 1)
 | i+1=>minO (leI l p i) (edO l p i)
theorem leI_S (l:List DV) (p:DP):∀ i,leI l p (i+1)=minO (edO l p (l.length - 1)) (leS l p (i+1))
 | 0=>by show minO (edO l p (l.length - 1)) (edO l p 0)=minO _ (minO (edO l p 0) (edO l p 0)); rw [minO_self]
 | i+1=>by
  show minO (leI l p (i+1)) _=minO _ (minO (leS l p (i+1)) _)
  rw [leI_S l p i,minO_assoc]
theorem leI_all {l:List DV} (p:DP) (h:2<=l.length):leI l p (l.length - 1)=leS l p l.length:=by
 obtain ⟨n,hn⟩:∃ n,l.length=n+2:=⟨l.length - 2,by omega⟩
 have:=leI_S l p n
 rw [show l.length - 1=n+1 by omega,this,hn]
 show minO _ _=minO (leS l p (n+1)) (edO l p (n+1))
 rw [minO_comm,show n+2 - 1=n+1 by omega]
theorem okO_edO (l:List DV) (p:DP) (i:Nat):okO (edO l p i):=okO_segD _ _ _
theorem okO_leS (l:List DV) (p:DP):∀ i,okO (leS l p i)
 | 0=>okO_edO _ _ _
 | i+1=>okO_min (okO_leS l p i) (okO_edO _ _ _)
theorem okO_leI (l:List DV) (p:DP):∀ i,okO (leI l p i)
 | 0=>okO_edO _ _ _
 | i+1=>okO_min (okO_leI l p i) (okO_edO _ _ _)
noncomputable def tpD (l:List DV) (p:DP):Option Rat:=if 0<=cntI l p l.length then zeroO else leS l p l.length
theorem okO_tpD (l:List DV) (p:DP):okO (tpD l p):=by
 unfold tpD; split
 ·exact okO_zero
 ·exact okO_leS _ _ _
set_option maxHeartbeats 1000000 in
theorem toPolygon_fn (l:List DV) (p:DP) (hl:polyP l) (hp:okPt p=true):Fn Tryz.prog 120 [⟨.slice tVec,l⟩,⟨tPoint,p⟩] false [⟨tRat,oD (tpD l p)⟩]:=by
 have h3:3<=l.length:=by have:=hl.1.1; omega
 have hn:l.length<=1048576:=by have:=hl.1.2; omega
 have c1:=contains_fn l p hl.2.1 hn hp
 have c3:=pointsOf_fn l hn
 have hml:(l.map ptV).length=l.length:=List.length_map ..
 have ptok:∀ i,i < l.length->okPt (ptV (nth (t:=tVec) l i))=true:=fun i hi=>okPt_ptV (hl.2.1 _ (nth_mem hi))
 by_cases h0:0<=cntI l p l.length
 ·have d1:=decide_eq_true (p:=cntI l p l.length ≥ 0) h0
  have c2:=ratInt_fn 0
  rw [ratI_z] at c2
  rw [show tpD l p=zeroO from if_pos h0]
  refine fe Tryz.func120 Tryz.ntmps120 Tryz.results120 fun hwf=>?_
  try simp (maxSteps:=9^9) only[go_sem]
  repeat refine AI ?_
  refine cw c1 ?_
  try simp (maxSteps:=9^9) only[go_sem]
  try simp (maxSteps:=9^9) only[go_sem,d1]
  repeat refine AI ?_
  refine cw c2 ?_
  try simp (maxSteps:=9^9) only[go_sem]
  all_goals repeat refine AI ?_
  all_goals first|kernel_rfl|omega|rfl
 ·have d1:=decide_eq_false (p:=cntI l p l.length ≥ 0) h0
  rw [show tpD l p=leS l p l.length from if_neg h0,<-leI_all p (by omega)]
  have s0:=toSegment_fn p (ptV (nth (t:=tVec) l (l.length - 1))) (ptV (nth (t:=tVec) l 0)) (gP_ok hp) (gP_ok (ptok _ (by omega))) (gP_ok (ptok _ (by omega)))
  have e0:segD p (ptV (nth (t:=tVec) l (l.length - 1))) (ptV (nth (t:=tVec) l 0))=leI l p 0:=by
   show _=edO l p (l.length - 1)
   unfold edO
   rw [nxt_end (by omega)]
  rw [e0,<-nth_ptV (by omega),<-nth_ptV (by omega)] at s0
  have ei:((l.length:Int) - 1).toNat=l.length - 1:=by omega
  rw [<-ei] at s0
  refine fe Tryz.func120 Tryz.ntmps120 Tryz.results120 fun hwf=>?_
  try simp (maxSteps:=9^9) only[go_sem]
  repeat refine AI ?_
  refine cw c1 ?_
  try simp (maxSteps:=9^9) only[go_sem]
  try simp (maxSteps:=9^9) only[go_sem,d1]
  repeat refine AI ?_
  refine cw c3 ?_
  try simp (maxSteps:=9^9) only[go_sem]
  try simp (maxSteps:=9^9) only[go_sem,hml]
  repeat refine AI ?_
  repeat refine AI ?_
  refine cw s0 ?_
  try simp (maxSteps:=9^9) only[go_sem]
  repeat refine AI ?_
  refine LoopG.intro _ _ _ (fun i:Nat=>⟨[(3,.ptr 0 0),(4,.ptr 1 0),(5,.sl tPoint (l.map ptV)),(6,.ptr 2 0),(7,.sc (.int .i64 (i+1)))],[(2,.box (cel tRat (oD (leI l p i)))),(1,.box (cel tRat (oD none))),(0,.box (cel tPoint p))]⟩) (fun i=>i+1<=l.length) (fun i=>l.length - i) 0 ?_ (by omega) ?_
  ·refine Wk.mk [(2,5)] ?_
   try simp (maxSteps:=9^9) only[go_sem]
   try (and_intros<;>first|rfl|omega|exact ⟨_,rfl⟩)
  ·rintro i hi
   try simp (maxSteps:=9^9) only[go_sem,hml]
   refine CondW_dec (fun hA=>?_) (fun hA=>?_)
   ·have hlt:i+1 < l.length:=by omega
    have s1:=toSegment_fn p (ptV (nth (t:=tVec) l i)) (ptV (nth (t:=tVec) l (i+1))) (gP_ok hp) (gP_ok (ptok _ (by omega))) (gP_ok (ptok _ (by omega)))
    have e1:segD p (ptV (nth (t:=tVec) l i)) (ptV (nth (t:=tVec) l (i+1)))=edO l p i:=by
     unfold edO
     rw [nxt_lt (by omega)]
    rw [e1,<-nth_ptV (by omega),<-nth_ptV (by omega)] at s1
    have s2:=ratMin_fn (leI l p i) (edO l p i) (okO_leI _ _ _) (okO_edO _ _ _)
    have hst:leI l p (i+1)=minO (leI l p i) (edO l p i):=rfl
    have q1:((i:Int)+1 - 1).toNat=i:=by omega
    have q2:((i:Int)+1).toNat=i+1:=by omega
    try simp (maxSteps:=9^9) only[go_sem]
    repeat refine AI ?_
    rw [q1,q2]
    repeat refine AI ?_
    refine cw s1 ?_
    try simp (maxSteps:=9^9) only[go_sem]
    repeat refine AI ?_
    refine cw s2 ?_
    try simp (maxSteps:=9^9) only[go_sem]
    repeat refine AI ?_
    refine LoopK.mk (i+1) ?_ (by omega) (by omega)
    rw [hst]
    exact WK
   ·rw [show l.length - 1=i by omega]
    try simp (maxSteps:=9^9) only[go_sem]
    all_goals repeat refine AI ?_
    all_goals first|kernel_rfl|omega|rfl
noncomputable def stpD (l:List DV) (p:DP):Option Rat:=if okPt p then tpD l p else none
noncomputable def discB (l:List DV) (p:DP) (n:Int):Bool:=(stpD l p).isSome && decide (cmpO (stpD l p) (some ((n:Int):Rat))<=0)
theorem DiscTouchesI_fn (l:List DV) (p:DP) (n:Int) (hl:polyP l) (hn:0<=n/\n<=1000000):Fn Tryz.prog 83 [⟨.slice tVec,l⟩,⟨tPoint,p⟩,⟨.int,n⟩] false [⟨.bool,discB l p n⟩]:=by
 have c0:=implIsPolygon_fn l
 rw [polyB_t hl] at c0
 have c1:=arePoints1_fn p
 have d1:=decide_eq_false (p:=n < 0) (by omega)
 unfold discB stpD
 cases h:okPt p<;>rw [h] at c1
 ·rw [if_neg (by decide)]
  refine fe Tryz.func83 Tryz.ntmps83 Tryz.results83 fun hwf=>?_
  try simp (maxSteps:=9^9) only[go_sem]
  repeat refine AI ?_
  refine cw c0 ?_
  try simp (maxSteps:=9^9) only[go_sem]
  repeat refine AI ?_
  refine cw c1 ?_
  try simp (maxSteps:=9^9) only[go_sem]
  all_goals repeat refine AI ?_
  all_goals first|kernel_rfl|omega|rfl
 ·rw [if_pos rfl]
  have c2:=toPolygon_fn l p hl h
  have c3:=isGood_fn (tpD l p)
  have c4:=ratInt_fn n
  rw [show ratI n=oD (some ((n:Int):Rat)) from ratI_eq n] at c4
  have c5:=ratCmp_fn (tpD l p) (some ((n:Int):Rat)) (okO_tpD _ _) (ok_small (by omega))
  cases hs:(tpD l p).isSome<;>rw [hs] at c3
  ·refine fe Tryz.func83 Tryz.ntmps83 Tryz.results83 fun hwf=>?_
   try simp (maxSteps:=9^9) only[go_sem]
   repeat refine AI ?_
   refine cw c0 ?_
   try simp (maxSteps:=9^9) only[go_sem]
   repeat refine AI ?_
   refine cw c1 ?_
   try simp (maxSteps:=9^9) only[go_sem]
   try simp (maxSteps:=9^9) only[go_sem,d1]
   repeat refine AI ?_
   refine cw c2 ?_
   try simp (maxSteps:=9^9) only[go_sem]
   repeat refine AI ?_
   repeat refine AI ?_
   refine cw c3 ?_
   try simp (maxSteps:=9^9) only[go_sem]
   all_goals repeat refine AI ?_
   all_goals first|kernel_rfl|omega|rfl
  ·refine fe Tryz.func83 Tryz.ntmps83 Tryz.results83 fun hwf=>?_
   try simp (maxSteps:=9^9) only[go_sem]
   repeat refine AI ?_
   refine cw c0 ?_
   try simp (maxSteps:=9^9) only[go_sem]
   repeat refine AI ?_
   refine cw c1 ?_
   try simp (maxSteps:=9^9) only[go_sem]
   try simp (maxSteps:=9^9) only[go_sem,d1]
   repeat refine AI ?_
   refine cw c2 ?_
   try simp (maxSteps:=9^9) only[go_sem]
   repeat refine AI ?_
   repeat refine AI ?_
   refine cw c3 ?_
   try simp (maxSteps:=9^9) only[go_sem]
   repeat refine AI ?_
   refine cw c4 ?_
   try simp (maxSteps:=9^9) only[go_sem]
   repeat refine AI ?_
   refine cw c5 ?_
   try simp (maxSteps:=9^9) only[go_sem]
   all_goals repeat refine AI ?_
   all_goals first|kernel_rfl|omega|rfl
def rchI (l:List DV):Nat->Int
 | 0=>0
 | i+1=>max (rchI l i) ((nth (t:=tVec) l i).1 * (nth (t:=tVec) l i).1+(nth (t:=tVec) l i).2 * (nth (t:=tVec) l i).2)
theorem sqI_le {k x:Int} (h1:-k<=x) (h2:x<=k):x * x<=k * k:=by
 rcases Int.le_total 0 x with h|h
 ·exact Int.mul_le_mul h2 h2 h (by omega)
 ·have:=Int.mul_le_mul (show -x<=k by omega) (show -x<=k by omega) (by omega) (by omega)
  rwa [Int.neg_mul_neg] at this
theorem ReachSquareI_fn (l:List DV) (hl:polyP l):Fn Tryz.prog 81 [⟨.slice tVec,l⟩] false [⟨.int,rchI l l.length⟩]:=by
 have c0:=implIsPolygon_fn l
 rw [polyB_t hl] at c0
 have hn:=hl.1.2
 refine fe Tryz.func81 Tryz.ntmps81 Tryz.results81 fun hwf=>?_
 try simp (maxSteps:=9^9) only[go_sem]
 repeat refine AI ?_
 refine cw c0 ?_
 try simp (maxSteps:=9^9) only[go_sem]
 refine LoopG.intro _ _ _ (fun i:Nat=>⟨[(3,.sc (.int .i64 (rchI l i))),(9,.sl tVec l),(10,.sc (.int .i64 l.length)),(11,.sc (.int .i64 i))],[]⟩) (fun i=>i<=l.length) (fun i=>l.length - i) 0 ?_ (Nat.zero_le _) ?_
 ·exact WK
 ·rintro i hi
  try simp (maxSteps:=9^9) only[go_sem]
  refine CondW_dec (fun hA=>?_) (fun hA=>?_)
  ·have hlt:i < l.length:=by omega
   obtain ⟨b1,b2,b3,b4⟩:=okV_b (hl.2.1 _ (nth_mem hlt))
   have s1:=sqI_le b1 b2
   have s2:=sqI_le b3 b4
   have n1:=sq_nn (nth (t:=tVec) l i).1
   have n2:=sq_nn (nth (t:=tVec) l i).2
   have hst:rchI l (i+1)=max (rchI l i) ((nth (t:=tVec) l i).1 * (nth (t:=tVec) l i).1+(nth (t:=tVec) l i).2 * (nth (t:=tVec) l i).2):=rfl
   try simp (maxSteps:=9^9) only[go_sem]
   repeat refine AI ?_
   refine LoopK.mk (i+1) ?_ (by omega) (by omega)
   rw [hst]
   exact WK
  ·rw [show l.length=i by omega]
   try simp (maxSteps:=9^9) only[go_sem]
   all_goals repeat refine AI ?_
   all_goals first|kernel_rfl|omega|rfl
end Go.Proofs.YtcbionahcldlnaaGreat.DW

namespace Go.Proofs.YtcbionahcldlnaaGreat.DW
open Go.RowKit
end Go.Proofs.YtcbionahcldlnaaGreat.DW

namespace Go.Proofs.YtcbionahcldlnaaGreat.DW
open Go.RowKit
theorem hull_mem {l:List DV} {x:DV} (h:x ∈ hullD l):x ∈ l:=by
 have hc:∀ {m:List DV},x ∈ chD m->x ∈ m:=fun {m} hx=>by
  have h1:x ∈ (chR m).reverse:=List.dropLast_subset _ hx
  have h2:x ∈ chRi m m.length:=by unfold chRi; rw [List.take_length]; exact List.mem_reverse.1 h1
  exact chRi_mem h2
 unfold hullD at h
 split at h
 ·exact srtD_mem.1 h
 ·rcases List.mem_append.1 h with h|h
  ·exact srtD_mem.1 (hc h)
  ·exact srtD_mem.1 (List.mem_reverse.1 (hc h))
theorem trn_aba (a b:DV):trn a b a=0:=by unfold trn; simp
theorem trn_aab (a b:DV):trn a a b=0:=by unfold trn; simp
theorem poly_nd {l:List DV} (h:polyP l):l.Nodup:=by
 rw [List.Nodup,List.pairwise_iff_getElem]
 intro i j hi hj hij e
 have h3:=h.1.1
 have h3':3<=l.length:=by omega
 have hr:=nxt_rng (n:=l.length) (i:=i) (by omega)
 by_cases hn:(j:Int)=nxt l.length i
 ·obtain ⟨k,hk,k1,k2⟩:∃ k,k < l.length/\k ≠ i/\k ≠ j:=by
   by_cases q0:i ≠ 0/\j ≠ 0
   ·exact ⟨0,by omega,by omega,by omega⟩
   ·by_cases q1:i ≠ 1/\j ≠ 1
    ·exact ⟨1,by omega,by omega,by omega⟩
    ·exact ⟨2,by omega,by omega,by omega⟩
  have h2:=h.2.2 i k hi hk (by omega) (by omega)
  rw [show (nxt l.length i).toNat=j by omega,nth_lt (t:=tVec) (l:=l) hi,nth_lt (t:=tVec) (l:=l) hj,e,trn_aab] at h2
  omega
 ·have h2:=h.2.2 i j hi hj (by omega) hn
  rw [nth_lt (t:=tVec) (l:=l) hj,<-e,nth_lt (t:=tVec) (l:=l) hi,trn_aba] at h2
  omega
theorem nd_len {α:Type} [DecidableEq α]:∀ {l m:List α},l.Nodup->(∀ x ∈ l,x ∈ m)->l.length<=m.length
 | [],m,_,_=>Nat.zero_le _
 | a :: l,m,hn,hs=>by
  rw [List.nodup_cons] at hn
  have ha:=hs a List.mem_cons_self
  have:=nd_len (m:=m.erase a) hn.2 fun x hx=>(List.mem_erase_of_ne (fun e=>hn.1 (by rw [<-e]; exact hx))).2 (hs x (List.mem_cons_of_mem _ hx))
  rw [List.length_erase_of_mem ha] at this
  have h0:0 < m.length:=List.length_pos_of_mem ha
  rw [List.length_cons]; omega
theorem allIn_of {k:Int} {l:List DV} (h:∀ v ∈ l,inB k v=true):allIn k l=true:=allIn_t fun i hi=>h _ (nth_mem hi)
theorem pgT_ok:smB pgT 20=true:=by
 have hp:polyP pgT:=by
  refine ⟨by decide,by decide,?_⟩
  intro i k hi hk
  have hi:i < 3:=hi
  have hk:k < 3:=hk
  match i,k,hi,hk with
  | 0,0,_,_=>exact fun h=>absurd rfl h
  | 0,1,_,_=>exact fun _ h=>absurd rfl h
  | 0,2,_,_=>exact fun _ _=>by decide
  | 1,0,_,_=>exact fun _ _=>by decide
  | 1,1,_,_=>exact fun h=>absurd rfl h
  | 1,2,_,_=>exact fun _ h=>absurd rfl h
  | 2,0,_,_=>exact fun _ h=>absurd rfl h
  | 2,1,_,_=>exact fun _ _=>by decide
  | 2,2,_,_=>exact fun h=>absurd rfl h
 unfold smB
 rw [polyB_t hp]
 decide
variable {code:List Int}
theorem pgD_ok (m:Int) (hm:1<=m/\m<=20):∀ (k:Nat) (c:Cu code),smB (pgD c m k).1 20=true
 | 0,c=>pgT_ok
 | k+1,c=>by
  unfold pgD
  split
  ·rename_i h
   have hp:polyP (pgH c m):=@of_decide_eq_true _ (Classical.propDecidable _) h
   have hn:=pgN_rng c
   have h5:=nd_len (poly_nd hp) fun x hx=>hull_mem hx
   rw [pvL_len] at h5
   have hin:∀ v ∈ pgH c m,inB 20 v=true:=fun v hv=>by
    have:=inB_b (pvL_in c.next (m:=m) (by omega) _ v (hull_mem hv))
    exact inB_of (by omega) (by omega) (by omega) (by omega)
   unfold smB
   rw [h,allIn_of hin,decide_eq_true (by show ((pgH c m).length:Int)<=_; omega)]; rfl
  ·exact pgD_ok m hm k (pgC c)
structure ScP (s:DSc):Prop where
 low:inB 200 s.1=true
 high:inB 200 s.2.1=true
 rob:SmP 20 s.2.2.1
 obs:∀ l ∈ s.2.2.2.1,SmP 200 l
 nobs:s.2.2.2.1.length<=4
 ntab:s.2.2.2.2.length<=3
 tabs:∀ v ∈ s.2.2.2.2,inB 200 v=true
 lx:s.1.1 < s.2.1.1
 ly:s.1.2 < s.2.1.2
theorem allIn_all {k:Int} {l:List DV} (h:allIn k l=true):∀ v ∈ l,inB k v=true:=fun v hv=>by
 unfold allIn at h
 rw [Bool.not_eq_true',List.any_eq_false] at h
 simpa using h v hv
theorem scene_p {s:DSc} (h:sceneB s=true):ScP s:=by
 unfold sceneB obsOK at h
 simp only [Bool.and_eq_true] at h
 obtain ⟨h1,h2,h3,h4,h5,h6,h7,h8⟩:=h
 have ha:=allIn_all h1
 refine ⟨ha _ (by simp),ha _ (by simp),smB_p h4,fun l hl=>smB_p ?_,?_,?_,allIn_all h8,of_decide_eq_true h2,of_decide_eq_true h3⟩
 ·rw [Bool.not_eq_true',List.any_eq_false] at h6
  simpa using h6 l hl
 ·have:=of_decide_eq_true h5; omega
 ·have:=of_decide_eq_true h7; omega
def robS (s:DSc) (h:Int):List DV:=s.2.2.1.map (rotN h.toNat)
theorem robS_sm {s:DSc} (hs:sceneB s=true) (h:Int):SmP 20 (robS s h):=(scene_p hs).rob.rot _
def widI (l:List DV):Nat->DV × DV
 | 0=>(nth (t:=tVec) l 0,nth (t:=tVec) l 0)
 | i+1=>((min (widI l i).1.1 (nth (t:=tVec) l i).1,min (widI l i).1.2 (nth (t:=tVec) l i).2),(max (widI l i).2.1 (nth (t:=tVec) l i).1,max (widI l i).2.2 (nth (t:=tVec) l i).2))
theorem widI_b {k:Int} {l:List DV} (h:∀ v ∈ l,inB k v=true) (h0:0 < l.length):∀ i,i<=l.length->((-k<=(widI l i).1.1/\(widI l i).1.1<=k)/\(-k<=(widI l i).1.2/\(widI l i).1.2<=k))/\((-k<=(widI l i).2.1/\(widI l i).2.1<=k)/\(-k<=(widI l i).2.2/\(widI l i).2.2<=k))
 | 0,_=>by
  have:=inB_b (h _ (nth_mem h0))
  unfold widI
  simp only
  omega
 | i+1,hi=>by
  have h1:=widI_b h h0 i (by omega)
  have h2:=inB_b (h _ (nth_mem (i:=i) (by omega)))
  unfold widI
  simp only
  omega
def widD (l:List DV):DV × DV:=widI l l.length
def boxD (s:DSc) (h:Int):DV × DV:=((s.1.1 - (widD (robS s h)).1.1,s.1.2 - (widD (robS s h)).1.2),(s.2.1.1 - (widD (robS s h)).2.1,s.2.1.2 - (widD (robS s h)).2.2))
def hdB (h:Int):Bool:=decide (0<=h/\h<=3)
def limB (s:DSc) (h:Int):Bool:=decide ((boxD s h).1.1 < (boxD s h).2.1) && decide ((boxD s h).1.2 < (boxD s h).2.2)
noncomputable def opnB (s:DSc) (h:Int):Bool:=sceneB s && (hdB h && limB s h)
noncomputable def arsD (s:DSc) (h:Int):List (List DV):=s.2.2.2.1.map (obsD (robS s h))
theorem wid_b {s:DSc} (hs:sceneB s=true) (h:Int):((-20<=(widD (robS s h)).1.1/\(widD (robS s h)).1.1<=20)/\(-20<=(widD (robS s h)).1.2/\(widD (robS s h)).1.2<=20))/\((-20<=(widD (robS s h)).2.1/\(widD (robS s h)).2.1<=20)/\(-20<=(widD (robS s h)).2.2/\(widD (robS s h)).2.2<=20)):=by
 have h1:=robS_sm hs h
 exact widI_b h1.ins (by have:=h1.poly.1.1; omega) _ (Nat.le_refl _)
theorem box_b {s:DSc} (hs:sceneB s=true) (h:Int):((-220<=(boxD s h).1.1/\(boxD s h).1.1<=220)/\(-220<=(boxD s h).1.2/\(boxD s h).1.2<=220))/\((-220<=(boxD s h).2.1/\(boxD s h).2.1<=220)/\(-220<=(boxD s h).2.2/\(boxD s h).2.2<=220)):=by
 have h1:=wid_b hs h
 have h2:=inB_b (scene_p hs).low
 have h3:=inB_b (scene_p hs).high
 unfold boxD
 simp only
 omega
theorem ars_poly {s:DSc} (hs:sceneB s=true) (h:Int):∀ l ∈ arsD s h,polyP l:=fun l hl=>by
 obtain ⟨o,ho,rfl⟩:=List.mem_map.1 hl
 exact obs_poly (robS_sm hs h) ((scene_p hs).obs o ho) (by decide)
theorem ars_len (s:DSc) (h:Int):(arsD s h).length=s.2.2.2.1.length:=List.length_map ..
variable {code:List Int}
def adV (v u:DV):DV:=(u.1+v.1,u.2+v.2)
theorem trn_ad (v a b c:DV):trn (adV v a) (adV v b) (adV v c)=trn a b c:=by
 unfold trn adV
 simp only
 rw [show b.1+v.1 - (a.1+v.1)=b.1 - a.1 by omega,show c.2+v.2 - (a.2+v.2)=c.2 - a.2 by omega,show b.2+v.2 - (a.2+v.2)=b.2 - a.2 by omega,show c.1+v.1 - (a.1+v.1)=c.1 - a.1 by omega]
theorem SmP.move {l:List DV} (h:SmP 20 l) {v:DV} (hv:inB 100 v=true):SmP 200 (l.map (adV v)):=by
 obtain ⟨b1,b2,b3,b4⟩:=inB_b hv
 have hin:∀ u ∈ l,inB 200 (adV v u)=true:=fun u hu=>by
  obtain ⟨a1,a2,a3,a4⟩:=inB_b (h.ins u hu)
  exact inB_of (by show -200<=_+_; omega) (by show _+_<=(200:Int); omega) (by show -200<=_+_; omega) (by show _+_<=(200:Int); omega)
 refine ⟨by rw [List.length_map]; exact h.five,poly_map h.poly (fun u hu=>?_) (trn_ad v),fun u hu=>?_⟩
 ·obtain ⟨a1,a2,a3,a4⟩:=inB_b (hin u hu)
  exact okV_of (by omega) (by omega) (by omega) (by omega)
 ·obtain ⟨w,hw,rfl⟩:=List.mem_map.1 hu
  exact hin w hw
theorem smB_of {l:List DV} {k:Int} (h:SmP k l):smB l k=true:=by
 unfold smB allIn
 rw [Bool.and_eq_true,Bool.and_eq_true,Bool.not_eq_true',List.any_eq_false]
 have:=h.five
 exact ⟨decide_eq_true (by omega),polyB_t h.poly,fun v hv=>by rw [h.ins v hv]; decide⟩
theorem sceneB_of {s:DSc} (h:ScP s):sceneB s=true:=by
 unfold sceneB obsOK allIn
 simp only [Bool.and_eq_true]
 have h1:=h.nobs
 have h2:=h.ntab
 refine ⟨?_,decide_eq_true h.lx,decide_eq_true h.ly,smB_of h.rob,decide_eq_true (by omega),?_,decide_eq_true (by omega),?_⟩
 ·rw [Bool.not_eq_true',List.any_eq_false]
  intro v hv
  rcases List.mem_cons.1 hv with rfl|hv
  ·rw [h.low]; decide
  ·rw [List.mem_singleton.1 hv,h.high]; decide
 ·rw [Bool.not_eq_true',List.any_eq_false]
  intro l hl
  rw [smB_of (h.obs l hl)]; decide
 ·rw [Bool.not_eq_true',List.any_eq_false]
  intro v hv
  rw [h.tabs v hv]; decide
noncomputable def obC (c:Cu code):Nat->Cu code
 | 0=>c
 | k+1=>(pgD (obC c k) 4 8).2.next.next
noncomputable def obX (c:Cu code):List DV:=(pgD c 4 8).1.map (adV (4+(pgD c 4 8).2.below 16,3+(pgD c 4 8).2.next.below 12))
noncomputable def obL (c:Cu code):Nat->List (List DV)
 | 0=>[]
 | k+1=>obL c k++[obX (obC c k)]
theorem obL_len (c:Cu code):∀ k,(obL c k).length=k
 | 0=>rfl
 | k+1=>by rw [obL,List.length_append,obL_len c k]; rfl
theorem obV_b (c:Cu code):inB 100 (4+(pgD c 4 8).2.below 16,3+(pgD c 4 8).2.next.below 12)=true:=by
 have h1:=(pgD c 4 8).2.below_rng (n:=16) (by decide)
 have h2:=(pgD c 4 8).2.next.below_rng (n:=12) (by decide)
 exact inB_of (by show -100<=4+_; omega) (by show 4+_<=(100:Int); omega) (by show -100<=3+_; omega) (by show 3+_<=(100:Int); omega)
theorem obX_ok (c:Cu code):SmP 200 (obX c):=(smB_p (pgD_ok 4 (by decide) 8 c)).move (obV_b c)
theorem obL_ok (c:Cu code):∀ k,∀ l ∈ obL c k,SmP 200 l
 | 0=>fun l hl=>by cases hl
 | k+1=>fun l hl=>by
  rw [obL,List.mem_append,List.mem_singleton] at hl
  rcases hl with hl|rfl
  ·exact obL_ok c k l hl
  ·exact obX_ok _
def rcX (x:Int):List DV:=[(x,-1),(x+2,-1),(x+2,40),(x,40)]
def tbC (c:Cu code):Nat->Cu code
 | 0=>c
 | k+1=>(tbC c k).next.next
def tbL (c:Cu code):Nat->List DV
 | 0=>[]
 | k+1=>tbL c k++[(3+(tbC c k).below 18,3+(tbC c k).next.below 14)]
theorem tbL_len (c:Cu code):∀ k,(tbL c k).length=k
 | 0=>rfl
 | k+1=>by rw [tbL,List.length_append,tbL_len c k]; rfl
theorem tbL_ok (c:Cu code):∀ k,∀ v ∈ tbL c k,inB 200 v=true
 | 0=>fun v hv=>by cases hv
 | k+1=>fun v hv=>by
  rw [tbL,List.mem_append,List.mem_singleton] at hv
  rcases hv with hv|rfl
  ·exact tbL_ok c k v hv
  ·have h1:=(tbC c k).below_rng (n:=18) (by decide)
   have h2:=(tbC c k).next.below_rng (n:=14) (by decide)
   exact inB_of (by show -200<=3+_; omega) (by show 3+_<=(200:Int); omega) (by show -200<=3+_; omega) (by show 3+_<=(200:Int); omega)
theorem rc0:polyP (rcX 0):=by
 refine ⟨by decide,?_,?_⟩
 ·intro v hv
  simp only [rcX,List.mem_cons,List.not_mem_nil,or_false] at hv
  rcases hv with rfl|rfl|rfl|rfl<;>decide
 ·intro i k hi hk
  have hi:i < 4:=hi
  have hk:k < 4:=hk
  unfold cornOK
  obtain rfl|rfl|rfl|rfl:i=0\/i=1\/i=2\/i=3:=by omega
  all_goals
   obtain rfl|rfl|rfl|rfl:k=0\/k=1\/k=2\/k=3:=by omega
   all_goals decide
theorem rcX_eq (x:Int):rcX x=(rcX 0).map (adV (x,0)):=by
 simp only [rcX,adV,List.map_cons,List.map_nil]
 simp only [Int.add_zero,Int.zero_add,Int.add_comm 2 x]
theorem rcX_ok {x:Int} (h:0<=x/\x<=20):SmP 200 (rcX x):=by
 have hin:∀ v ∈ rcX x,inB 200 v=true:=by
  intro v hv
  simp only [rcX,List.mem_cons,List.not_mem_nil,or_false] at hv
  rcases hv with rfl|rfl|rfl|rfl<;>exact inB_of (by simp only; omega) (by simp only; omega) (by simp only; omega) (by simp only; omega)
 refine ⟨show 4<=5 by decide,?_,hin⟩
 rw [rcX_eq] at hin ⊢
 exact poly_map rc0 (fun v hv=>by
  obtain ⟨b1,b2,b3,b4⟩:=inB_b (hin _ (List.mem_map.2 ⟨v,hv,rfl⟩))
  exact okV_of (by omega) (by omega) (by omega) (by omega)) (trn_ad _)
def mvI (l:List DV) (v:DV) (i:Nat):List DV:=(l.take i).map (adV v)
theorem mvI_step {l:List DV} {v:DV} {i:Nat} (h:i < l.length):mvI l v (i+1)=mvI l v i++[adV v (nth (t:=tVec) l i)]:=by
 unfold mvI
 rw [List.take_succ_eq_append_getElem h,nth_lt h,List.map_append]
 rfl
theorem mvI_len {l:List DV} {v:DV} {i:Nat} (h:i<=l.length):(mvI l v i).length=i:=by
 unfold mvI
 rw [List.length_map,List.length_take]; omega
theorem mvI_all {l:List DV} {v:DV} {i:Nat} (h:l.length<=i):mvI l v i=l.map (adV v):=by
 unfold mvI
 rw [List.take_of_length_le h]
theorem movePolygonS_fn (l:List DV) (v:DV) (hl:l.length<=16) (hv:okV v=true) (h:∀ u ∈ l,okV u=true/\okV (adV v u)=true):Fn Tryz.prog 35 [⟨.slice tVec,l⟩,⟨tVec,v⟩] true [⟨.slice tVec,l.map (adV v)⟩]:=by
 have c1:=IsValidVec_fn v
 rw [hv] at c1
 refine fe Tryz.func35 Tryz.ntmps35 Tryz.results35 fun hwf=>?_
 try simp (maxSteps:=9^9) only[go_sem]
 repeat refine AI ?_
 refine cw c1 ?_
 try simp (maxSteps:=9^9) only[go_sem]
 refine LoopG.intro _ _ _ (fun i:Nat=>⟨[(0,.sl tVec l),(3,.ptr 0 0),(5,.row 1 0),(12,.sl tVec l),(13,.sc (.int .i64 l.length)),(14,.sc (.int .i64 i))],[(1,.row 24 tVec 0 true (mvI l v i)),(0,.box [.sc (.int .i64 v.1),.sc (.int .i64 v.2)])]⟩) (fun i=>i<=l.length) (fun i=>l.length - i) 0 ?_ (Nat.zero_le _) ?_
 ·refine Wk.mk [] ?_
  try simp (maxSteps:=9^9) only[go_sem]
  try (and_intros<;>first|rfl|omega|exact ⟨_,rfl⟩)
  all_goals (first|exact ⟨rfl,rfl⟩|rfl)
 ·rintro i hi
  try simp (maxSteps:=9^9) only[go_sem]
  refine CondW_dec (fun hA=>?_) (fun hA=>?_)
  ·have hlt:i < l.length:=by omega
   have hml:=mvI_len (l:=l) (v:=v) (i:=i) (by omega)
   have e:=mvI_step (v:=v) hlt
   obtain ⟨h1,h2⟩:=h _ (nth_mem hlt)
   have c2:=IsValidVec_fn (nth (t:=tVec) l i)
   have c3:=IsValidVec_fn (adV v (nth (t:=tVec) l i))
   rw [h1] at c2
   rw [h2] at c3
   obtain ⟨a1,a2,a3,a4⟩:=inB_b h1
   obtain ⟨b1,b2,b3,b4⟩:=inB_b hv
   unfold adV at c3 e
   try simp (maxSteps:=9^9) only[go_sem]
   repeat refine AI ?_
   repeat refine AI ?_
   refine cw c2 ?_
   try simp (maxSteps:=9^9) only[go_sem]
   repeat refine AI ?_
   repeat refine AI ?_
   refine cw c3 ?_
   try simp (maxSteps:=9^9) only[go_sem]
   try simp (maxSteps:=9^9) only[go_sem,hml]
   repeat refine AI ?_
   refine LoopK.mk (i+1) ?_ (by omega) (by omega)
   rw [e]
   refine Wk.mk [] ?_
   try simp (maxSteps:=9^9) only[go_sem]
   try (and_intros<;>first|rfl|omega|exact ⟨_,rfl⟩)
   all_goals (first|exact ⟨by omega,rfl⟩|exact ⟨rfl,rfl⟩)
  ·rw [<-mvI_all (l:=l) (v:=v) (i:=i) (by omega)]
   try simp (maxSteps:=9^9) only[go_sem]
   all_goals repeat refine AI ?_
   all_goals first|kernel_rfl|omega|rfl
theorem cloneVn_fn (l:List DV) (hl:l.length<=16777216):Fn Tryz.prog 41 [⟨.slice tVec,l⟩] true [⟨.slice tVec,l⟩]:=by
 refine fe Tryz.func41 Tryz.ntmps41 Tryz.results41 fun hwf=>?_
 try simp (maxSteps:=9^9) only[go_sem]
 refine NilW.eq ?_
 try simp (maxSteps:=9^9) only[go_sem]
 refine CondW_nb (fun h=>?_) (fun h=>?_)
 ·try simp (maxSteps:=9^9) only[go_sem,h]
 ·try simp (maxSteps:=9^9) only[go_sem]
  repeat refine AI ?_
  try simp (maxSteps:=9^9) only[go_sem]
  omega
theorem cloneDn_fn (l:List DV) (hl:l.length<=1000000000000):Fn Tryz.prog 63 [⟨.slice tVec,l⟩] true [⟨.slice tVec,l⟩]:=by
 refine fe Tryz.func63 Tryz.ntmps63 Tryz.results63 fun hwf=>?_
 try simp (maxSteps:=9^9) only[go_sem]
 refine NilW.eq ?_
 try simp (maxSteps:=9^9) only[go_sem]
 refine CondW_nb (fun h=>?_) (fun h=>?_)
 ·try simp (maxSteps:=9^9) only[go_sem,h]
 ·try simp (maxSteps:=9^9) only[go_sem]
  repeat refine AI ?_
  try simp (maxSteps:=9^9) only[go_sem]
  omega
set_option maxHeartbeats 2000000 in
theorem ownAreas_fn (l:List (List DV)) (hl:l.length<=1000) (h:∀ a ∈ l,a.length<=1000):Fn Tryz.prog 42 [⟨tVecSS,l⟩] false [⟨tVecSS,l⟩]:=by
 refine fe Tryz.func42 Tryz.ntmps42 Tryz.results42 fun hwf=>?_
 try simp (maxSteps:=9^9) only[go_sem]
 refine LoopG.intro _ _ _ (fun i:Nat=>⟨[(3,.row 0 0),(7,.sl (.slice tVec) l),(8,.sc (.int .i64 l.length)),(9,.sc (.int .i64 i))],[(0,.row 25 (.slice tVec) 0 false (l.take i))]⟩) (fun i=>i<=l.length) (fun i=>l.length - i) 0 ?_ (Nat.zero_le _) ?_
 ·exact WK
 ·rintro i hi
  have hlen:(l.take i).length<=i:=by rw [List.length_take]; omega
  try simp (maxSteps:=9^9) only[go_sem]
  refine CondW_dec (fun hA=>?_) (fun hA=>?_)
  ·have hlt:i < l.length:=by omega
   have c1:=cloneVn_fn (nth (t:=.slice tVec) l i) (Nat.le_trans (h _ (nth_in (t:=.slice tVec) hlt)) (by decide))
   have e:l.take (i+1)=l.take i++[nth (t:=.slice tVec) l i]:=by
    rw [List.take_add_one,List.getElem?_eq_getElem hlt,nth_lt (t:=.slice tVec) hlt]; rfl
   try simp (maxSteps:=9^9) only[go_sem]
   repeat refine AI ?_
   repeat refine AI ?_
   refine cw c1 ?_
   try simp (maxSteps:=9^9) only[go_sem]
   repeat refine AI ?_
   refine LoopK.mk (i+1) ?_ (by omega) (by omega)
   rw [e]
   exact WK
  ·obtain rfl:i=l.length:=by omega
   try simp (maxSteps:=9^9) only[go_sem]
   exact List.take_length
theorem scP_sizes {s:DSn} (h:ScP s):s.2.2.1.length<=16/\s.2.2.2.1.length<=4/\(∀ a ∈ s.2.2.2.1,a.length<=1000)/\s.2.2.2.2.length<=16:=by
 have h1:=h.nobs
 have h2:=h.ntab
 have h3:=h.rob.five
 exact ⟨by omega,by omega,fun a ha=>by have:=(h.obs a ha).five; omega,by omega⟩
theorem ownScene_fn (s:DSn) (h:s.2.2.1.length<=16/\s.2.2.2.1.length<=4/\(∀ a ∈ s.2.2.2.1,a.length<=1000)/\s.2.2.2.2.length<=16):Fn Tryz.prog 14 [⟨tScene,s⟩] false [⟨tScene,s⟩]:=by
 obtain ⟨h1,h2,h3,h4⟩:=h
 have c1:=cloneVn_fn s.2.2.1 (by omega)
 have c2:=ownAreas_fn s.2.2.2.1 (by omega) h3
 have c3:=cloneVn_fn s.2.2.2.2 (by omega)
 obtain ⟨⟨a1,a2⟩,⟨b1,b2⟩,r,ob,tb⟩:=s
 refine fe Tryz.func14 Tryz.ntmps14 Tryz.results14 fun hwf=>?_
 try simp (maxSteps:=9^9) only[go_sem]
 repeat refine AI ?_
 refine cw c1 ?_
 try simp (maxSteps:=9^9) only[go_sem]
 repeat refine AI ?_
 refine cw c2 ?_
 try simp (maxSteps:=9^9) only[go_sem]
 repeat refine AI ?_
 refine cw c3 ?_
 try simp (maxSteps:=9^9) only[go_sem]
 all_goals repeat refine AI ?_
 all_goals first|kernel_rfl|omega|rfl
@[go_sem] def cC (k:DCl):List AV:=[.sc (.bool k.1.1.1),.sl .int k.1.1.2,.sl .int k.1.2,.sc (.bool k.2.1.1.1),.sl .int k.2.1.1.2,.sl .int k.2.1.2,.sc (.bool k.2.2.1.1.1),.sl .int k.2.2.1.1.2,.sl .int k.2.2.1.2,.sc (.bool k.2.2.2.1.1.1),.sl .int k.2.2.2.1.1.2,.sl .int k.2.2.2.1.2,.sc (.bool k.2.2.2.2.1.1.1),.sl .int k.2.2.2.2.1.1.2,.sl .int k.2.2.2.2.1.2,.sc (.bool k.2.2.2.2.2.1.1),.sl .int k.2.2.2.2.2.1.2,.sl .int k.2.2.2.2.2.2]
@[go_sem] def sB0:List AV:=[.sc (.int .i64 0),.sc (.bool false),.sc (.int .i64 0),.sc (.int .i64 0),.sc (.int .i64 0),.sc (.int .i64 0),.sc (.slice none 0 0),.sc (.slice none 0 0),.sc (.slice none 0 0),.sc (.slice none 0 0),.sc (.slice none 0 0)]
section
variable {s:DSn} {h:Int} {o:Bool} {b:DV × DV} {a:List (List DV)}
set_option maxHeartbeats 16000000 in
theorem SliceOf_fn (hz:o=false->b=((0,0),(0,0))) (cv:Fn Tryz.prog 13 [⟨tScene,s⟩] false [⟨.bool,true⟩]) (hh:0<=h/\h<=3) (c1:Fn Tryz.prog 84 [⟨tScene,s⟩,⟨.int,h⟩] false [⟨tBox,b⟩,⟨.bool,o⟩]) (c2:Fn Tryz.prog 85 [⟨tScene,s⟩,⟨.int,h⟩] true [⟨tVecSS,a⟩])
  (hb:((b.1.1).natAbs<=1000/\(b.1.2).natAbs<=1000)/\((b.2.1).natAbs<=1000/\(b.2.2).natAbs<=1000)) (hp:∀ x ∈ a,polyB x=true) (ha:a.length<=4):Fn Tryz.prog 16 [⟨tScene,s⟩,⟨.int,h⟩] false [⟨tSlice,slcD h o b a⟩]:=by
 have ce:=emptySliceN_fn s h o b a hz c1 c2
 have ch:=isHeading_fn h
 rw [decide_eq_true hh] at ch
 unfold slcD
 cases o
 ·have hz:=hz rfl
  subst hz
  rw [if_neg (fun h=>by cases h)] at ce ⊢
  refine fe Tryz.func16 Tryz.ntmps16 Tryz.results16 fun hwf=>?_
  try simp (maxSteps:=9^9) only[go_sem]
  repeat refine AI ?_
  refine cw cv ?_
  try simp (maxSteps:=9^9) only[go_sem]
  repeat refine AI ?_
  repeat refine AI ?_
  refine cw ch ?_
  try simp (maxSteps:=9^9) only[go_sem]
  repeat refine AI ?_
  repeat refine AI ?_
  refine cw ce ?_
  try simp (maxSteps:=9^9) only[go_sem]
  all_goals repeat refine AI ?_
  all_goals first|kernel_rfl|omega|rfl
 rw [if_pos rfl] at ce ⊢
 have hb1:b.1.1.natAbs<=1000000/\b.2.1.natAbs<=1000000:=⟨by omega,by omega⟩
 have hb2:b.1.2.natAbs<=1000000/\b.2.2.natAbs<=1000000:=⟨by omega,by omega⟩
 have cev:=eventsOf_fn b a hb1 ⟨⟨by omega,by omega⟩,⟨by omega,by omega⟩⟩ hp (by omega)
 have hel:=evD_len (b:=b) hp ha
 have heo:=evD_ok hb1 hp
 unfold drsD cllD wllD
 generalize evD b a=ev at *
 have hcok:=clI_ok (a:=a) (ev:=ev) hb2
 have hwok:=wwI_ok (a:=a) (ev:=ev) hb2
 have hcl:=clI_len b a ev ha
 have hwl:=wwI_len b a ev ha
 have csl:=fun lo hi h1 h2=>slabCells_fn b a lo hi hb2 hp (by omega) h1 h2
 have cwl:=fun x hx=>wallsAt_fn b a x hb2 hp (by omega) hx
 obtain ⟨⟨b1,b2⟩,⟨b3,b4⟩⟩:=b
 refine fe Tryz.func16 Tryz.ntmps16 Tryz.results16 fun hwf=>?_
 try simp (maxSteps:=9^9) only[go_sem]
 repeat refine AI ?_
 refine cw cv ?_
 try simp (maxSteps:=9^9) only[go_sem]
 repeat refine AI ?_
 repeat refine AI ?_
 refine cw ch ?_
 try simp (maxSteps:=9^9) only[go_sem]
 repeat refine AI ?_
 repeat refine AI ?_
 refine cw ce ?_
 try simp (maxSteps:=9^9) only[go_sem]
 repeat refine AI ?_
 refine cw cev ?_
 try simp (maxSteps:=9^9) only[go_sem]
 refine LoopG.intro _ _ _ (fun k:Nat=>⟨[(4,.ptr 3 0),(5,.ptr 0 0),(6,.sl tRat ev),(7,.sc (.int .i64 ((k+1:Nat):Int)))],[(0,.box [.sc (.int .i64 h),.sc (.bool true),.sc (.int .i64 b1),.sc (.int .i64 b2),.sc (.int .i64 b3),.sc (.int .i64 b4),.sl (.slice tVec) a,.row 1 0,.row 2 0,.sc (.slice none 0 0),.sc (.slice none 0 0)]),(1,.row 93 tCell 0 false (clI' ((b1,b2),b3,b4) a ev k)),(2,.row 95 tWall 0 false (wwI ((b1,b2),b3,b4) a ev k)),(3,.box sB0)]⟩) (fun k=>k<=ev.length - 1) (fun k=>ev.length - k) 0 ?_ (Nat.zero_le _) ?_
 ·refine Wk.nilB 2 7 10 93 tCell (by rfl) (by rfl) (by rfl) ?_
  refine Wk.nilB 2 8 11 95 tWall (by rfl) (by rfl) (by rfl) ?_
  simp only [List.set_cons_succ,List.set_cons_zero]
  refine Wk.mk [(0,2),(1,10),(2,11),(3,1)] ?_
  try simp (maxSteps:=9^9) only[go_sem]
  try (and_intros<;>first|rfl|omega|exact ⟨_,rfl⟩)
 ·rintro k hk
  have hclk:=hcl k
  have hwlk:=hwl k
  have hN:(((k+1:Nat):Int) - 1).toNat=k:=by omega
  have hN2:(((k+1:Nat):Int)).toNat=k+1:=by omega
  try simp (maxSteps:=9^9) only[go_sem]
  refine CondW_dec (fun hA=>?_) (fun hA=>?_)
  ·have hkt:k+1 < ev.length:=by omega
   have v1:=heo _ (nth_in (t:=tRat) (i:=k) (show k < ev.length by omega))
   have v2:=heo _ (nth_in (t:=tRat) hkt)
   have c3:=csl (rdO (nth (t:=tRat) ev k)) (rdO (nth (t:=tRat) ev (k+1))) (okO_rdO _) (okO_rdO _)
   rw [okR_oD v1,okR_oD v2] at c3
   have c4:=cwl (rdO (nth (t:=tRat) ev (k+1))) (okO_rdO _)
   rw [okR_oD v2] at c4
   have hsl:=slbD_len ((b1,b2),b3,b4) a (rdO (nth (t:=tRat) ev k)) (rdO (nth (t:=tRat) ev (k+1)))
   have hwl2:=walD_len ((b1,b2),b3,b4) a (rdO (nth (t:=tRat) ev (k+1)))
   have e1:clI' ((b1,b2),b3,b4) a ev (k+1)=clI' ((b1,b2),b3,b4) a ev k++slbD ((b1,b2),b3,b4) a (rdO (nth (t:=tRat) ev k)) (rdO (nth (t:=tRat) ev (k+1))):=rfl
   have e2:wwI ((b1,b2),b3,b4) a ev (k+1)=if k+2 < ev.length then wwI ((b1,b2),b3,b4) a ev k++walD ((b1,b2),b3,b4) a (rdO (nth (t:=tRat) ev (k+1))) else wwI ((b1,b2),b3,b4) a ev k:=rfl
   have t1:nth (t:=tRat) ev (((k+1:Nat):Int) - 1).toNat=nth (t:=tRat) ev k:=by rw [hN]
   try simp (maxSteps:=9^9) only[go_sem]
   repeat refine AI ?_
   try rw [hN]
   repeat refine AI ?_
   refine cw c3 ?_
   try simp (maxSteps:=9^9) only[go_sem]
   repeat refine AI ?_
   refine CondW_dec (fun hB=>?_) (fun hB=>?_)
   ·rw [if_pos (by omega)] at e2
    try simp (maxSteps:=9^9) only[go_sem]
    repeat refine AI ?_
    repeat refine AI ?_
    refine cw c4 ?_
    try simp (maxSteps:=9^9) only[go_sem]
    repeat refine AI ?_
    refine LoopK.mk (k+1) ?_ (by omega) (by omega)
    rw [e1,e2]
    exact WK
   ·rw [if_neg (by omega)] at e2
    try simp (maxSteps:=9^9) only[go_sem]
    repeat refine AI ?_
    refine LoopK.mk (k+1) ?_ (by omega) (by omega)
    rw [e1,e2]
    exact WK
  ·obtain rfl:k=ev.length - 1:=by omega
   have hco:=hcok (ev.length - 1)
   have hwo:=hwok (ev.length - 1)
   generalize clI' ((b1,b2),b3,b4) a ev (ev.length - 1)=C at *
   generalize wwI ((b1,b2),b3,b4) a ev (ev.length - 1)=W at *
   have hdl:=drI_len C W (by omega)
   have hdo:=drI_ok C W
   try simp (maxSteps:=9^9) only[go_sem]
   repeat refine AI ?_
   refine LoopG.intro _ _ _ (fun i:Nat=>⟨[(4,.ptr 2 0),(5,.ptr 0 0),(76,.sl tCell C),(77,.sc (.int .i64 C.length)),(78,.sc (.int .i64 i))],[(0,.box [.sc (.int .i64 h),.sc (.bool true),.sc (.int .i64 b1),.sc (.int .i64 b2),.sc (.int .i64 b3),.sc (.int .i64 b4),.sl (.slice tVec) a,.sl tCell C,.sl tWall W,.row 1 0,.sc (.slice none 0 0)]),(1,.row 98 tVec 0 false (drI C W i)),(2,.box sB0)]⟩) (fun i=>i<=C.length) (fun i=>C.length - i) 0 ?_ (Nat.zero_le _) ?_
   ·refine Wk.nilB 0 9 10 98 tVec (by rfl) (by rfl) (by rfl) ?_
    simp only [List.set_cons_succ,List.set_cons_zero]
    refine Wk.mk [(1,10),(2,3)] ?_
    try simp (maxSteps:=9^9) only[go_sem]
    try (and_intros<;>first|rfl|omega|exact ⟨_,rfl⟩)
   ·rintro i hi
    have hdi:=hdl i
    try simp (maxSteps:=9^9) only[go_sem]
    refine CondW_dec (fun hB=>?_) (fun hB=>?_)
    ·have hit:i < C.length:=by omega
     have hci:=hco _ (nth_in (t:=tCell) hit)
     have e3:drI C W (i+1)=drJ (nth (t:=tCell) C i) i W (drI C W i) W.length:=rfl
     try simp (maxSteps:=9^9) only[go_sem]
     repeat refine AI ?_
     refine LoopG.intro _ _ _ (fun j:Nat=>⟨[(4,.ptr 2 0),(5,.ptr 0 0),(8,.sc (.int .i64 i)),(9,.ptr 3 0),(76,.sl tCell C),(77,.sc (.int .i64 C.length)),(78,.sc (.int .i64 i)),(84,.sl tWall W),(85,.sc (.int .i64 W.length)),(86,.sc (.int .i64 j))],[(0,.box [.sc (.int .i64 h),.sc (.bool true),.sc (.int .i64 b1),.sc (.int .i64 b2),.sc (.int .i64 b3),.sc (.int .i64 b4),.sl (.slice tVec) a,.sl tCell C,.sl tWall W,.row 1 0,.sc (.slice none 0 0)]),(1,.row 98 tVec 0 false (drJ (nth (t:=tCell) C i) i W (drI C W i) j)),(2,.box sB0),(3,.box (cC (nth (t:=tCell) C i)))]⟩) (fun j=>j<=W.length) (fun j=>W.length - j) 0 ?_ (Nat.zero_le _) ?_
     ·exact WK
     ·rintro j hj
      have hdj:=drJ_len (nth (t:=tCell) C i) i W (drI C W i) j
      try simp (maxSteps:=9^9) only[go_sem]
      refine CondW_dec (fun hD=>?_) (fun hD=>?_)
      ·have hjt:j < W.length:=by omega
       have c5:=cellMeetsWall_fn _ _ hci (hwo _ (nth_in (t:=tWall) hjt))
       have e4:drJ (nth (t:=tCell) C i) i W (drI C W i) (j+1)=if cmD (nth (t:=tCell) C i) (nth (t:=tWall) W j)=true then drJ (nth (t:=tCell) C i) i W (drI C W i) j++[((i:Int),(j:Int))] else drJ (nth (t:=tCell) C i) i W (drI C W i) j:=rfl
       cases g:cmD (nth (t:=tCell) C i) (nth (t:=tWall) W j)<;>rw [g] at c5 e4
       ·rw [if_neg (fun h=>by cases h)] at e4
        try simp (maxSteps:=9^9) only[go_sem]
        repeat refine AI ?_
        repeat refine AI ?_
        refine cw c5 ?_
        try simp (maxSteps:=9^9) only[go_sem]
        repeat refine AI ?_
        refine LoopK.mk (j+1) ?_ (by omega) (by omega)
        rw [e4]
        exact WK
       ·rw [if_pos rfl] at e4
        try simp (maxSteps:=9^9) only[go_sem]
        repeat refine AI ?_
        repeat refine AI ?_
        refine cw c5 ?_
        try simp (maxSteps:=9^9) only[go_sem]
        repeat refine AI ?_
        refine LoopK.mk (j+1) ?_ (by omega) (by omega)
        rw [e4]
        exact WK
      ·obtain rfl:j=W.length:=by omega
       try simp (maxSteps:=9^9) only[go_sem]
       repeat refine AI ?_
       refine LoopK.mk (i+1) ?_ (by omega) (by omega)
       rw [e3]
       exact WK
    ·obtain rfl:i=C.length:=by omega
     have c6:=partsOf_fn C.length (drI C W C.length) (hdo C.length (Nat.le_refl _)) (by omega)
     try simp (maxSteps:=9^9) only[go_sem]
     repeat refine AI ?_
     refine cw c6 ?_
     try simp (maxSteps:=9^9) only[go_sem]
     all_goals repeat refine AI ?_
     all_goals first|kernel_rfl|omega|rfl
end
set_option maxHeartbeats 2000000 in
theorem ownCell_fn (k:DCl) (h:gC k):Fn Tryz.prog 65 [⟨tCell,k⟩] false [⟨tCell,k⟩]:=by
 obtain ⟨h1,h2,h3,h4,h5,h6⟩:=h
 have c1:=ownF_fn h1
 have c2:=ownF_fn h2
 have c3:=ownF_fn h3
 have c4:=ownF_fn h4
 have c5:=ownF_fn h5
 have c6:=ownF_fn h6
 obtain ⟨⟨⟨s1,n1⟩,d1⟩,⟨⟨s2,n2⟩,d2⟩,⟨⟨s3,n3⟩,d3⟩,⟨⟨s4,n4⟩,d4⟩,⟨⟨s5,n5⟩,d5⟩,⟨⟨s6,n6⟩,d6⟩⟩:=k
 dsimp only at c1 c2 c3 c4 c5 c6
 refine fe Tryz.func65 Tryz.ntmps65 Tryz.results65 fun hwf=>?_
 try simp (maxSteps:=9^9) only[go_sem]
 repeat refine AI ?_
 refine cw c1 ?_
 try simp (maxSteps:=9^9) only[go_sem]
 repeat refine AI ?_
 refine cw c2 ?_
 try simp (maxSteps:=9^9) only[go_sem]
 repeat refine AI ?_
 refine cw c3 ?_
 try simp (maxSteps:=9^9) only[go_sem]
 repeat refine AI ?_
 refine cw c4 ?_
 try simp (maxSteps:=9^9) only[go_sem]
 repeat refine AI ?_
 refine cw c5 ?_
 try simp (maxSteps:=9^9) only[go_sem]
 repeat refine AI ?_
 refine cw c6 ?_
 try simp (maxSteps:=9^9) only[go_sem]
 all_goals repeat refine AI ?_
 all_goals first|kernel_rfl|omega|rfl
theorem take_snoc {t:Ty} {l:List t.den} {i:Nat} (h:i < l.length):l.take (i+1)=l.take i++[nth (t:=t) l i]:=by
 rw [List.take_add_one,List.getElem?_eq_getElem h,nth_lt h]; rfl
theorem ownSlice_fn' (hd:Int) (o:Bool) (b1 b2 b3 b4:Int) (a:List (List DV)) (C:List DCl) (W:List DWl) (D:List DV) (T:List Int) (h1:a.length<=1000) (h2:∀ x ∈ a,x.length<=1000) (h3:∀ k ∈ C,gC k) (h4:∀ w ∈ W,gW w) (h5:C.length<=1000000) (h6:W.length<=1000000) (h7:D.length<=1000000000000) (h8:T.length<=16777216):Fn Tryz.prog 26 [⟨tSlice,(hd,o,((b1,b2),(b3,b4)),a,C,W,D,T)⟩] false [⟨tSlice,(hd,o,((b1,b2),(b3,b4)),a,C,W,D,T)⟩]:=by
 have c1:=ownAreas_fn a h1 h2
 have c2:=cloneDn_fn D h7
 have c3:=clone_fn T h8
 refine fe Tryz.func26 Tryz.ntmps26 Tryz.results26 fun hwf=>?_
 try simp (maxSteps:=9^9) only[go_sem]
 repeat refine AI ?_
 refine cw c1 ?_
 try simp (maxSteps:=9^9) only[go_sem]
 repeat refine AI ?_
 refine cw c2 ?_
 try simp (maxSteps:=9^9) only[go_sem]
 repeat refine AI ?_
 refine cw c3 ?_
 try simp (maxSteps:=9^9) only[go_sem]
 repeat refine AI ?_
 refine LoopG.intro _ _ _ (fun i:Nat=>⟨[(1,.ptr 1 0),(2,.ptr 3 0),(3,.ptr 0 0),(25,.sl tCell C),(26,.sc (.int .i64 C.length)),(27,.sc (.int .i64 i))],[(0,.box [.sc (.int .i64 hd),.sc (.bool o),.sc (.int .i64 b1),.sc (.int .i64 b2),.sc (.int .i64 b3),.sc (.int .i64 b4),.sl (.slice tVec) a,.row 2 0,.sc (.slice none 0 0),.sl tVec D,.sl .int T]),(1,.box [.sc (.int .i64 hd),.sc (.bool o),.sc (.int .i64 b1),.sc (.int .i64 b2),.sc (.int .i64 b3),.sc (.int .i64 b4),.sl (.slice tVec) a,.sl tCell C,.sl tWall W,.sl tVec D,.sl .int T]),(2,.row 93 tCell 0 false (C.take i)),(3,.box sB0)]⟩) (fun i=>i<=C.length) (fun i=>C.length - i) 0 ?_ (Nat.zero_le _) ?_
 ·refine Wk.nilB 4 7 10 93 tCell (by rfl) (by rfl) (by rfl) ?_
  simp only [List.set_cons_succ,List.set_cons_zero]
  refine Wk.mk [(0,4),(1,0),(2,10),(3,1)] ?_
  try simp (maxSteps:=9^9) only[go_sem]
  try (and_intros<;>first|rfl|omega|exact ⟨_,rfl⟩)
 ·rintro i hi
  have hlen:(C.take i).length<=i:=by rw [List.length_take]; omega
  try simp (maxSteps:=9^9) only[go_sem]
  refine CondW_dec (fun hA=>?_) (fun hA=>?_)
  ·have hlt:i < C.length:=by omega
   have c4:=ownCell_fn _ (h3 _ (nth_in (t:=tCell) hlt))
   have e:=take_snoc (t:=tCell) hlt
   try simp (maxSteps:=9^9) only[go_sem]
   repeat refine AI ?_
   repeat refine AI ?_
   refine cw c4 ?_
   try simp (maxSteps:=9^9) only[go_sem]
   repeat refine AI ?_
   refine LoopK.mk (i+1) ?_ (by omega) (by omega)
   rw [e]
   exact WK
  ·obtain rfl:i=C.length:=by omega
   have e:=List.take_length (l:=C)
   rw [e]
   try simp (maxSteps:=9^9) only[go_sem]
   refine LoopG.intro _ _ _ (fun i:Nat=>⟨[(1,.ptr 1 0),(2,.ptr 3 0),(3,.ptr 0 0),(40,.sl tWall W),(41,.sc (.int .i64 W.length)),(42,.sc (.int .i64 i))],[(0,.box [.sc (.int .i64 hd),.sc (.bool o),.sc (.int .i64 b1),.sc (.int .i64 b2),.sc (.int .i64 b3),.sc (.int .i64 b4),.sl (.slice tVec) a,.sl tCell C,.row 2 0,.sl tVec D,.sl .int T]),(1,.box [.sc (.int .i64 hd),.sc (.bool o),.sc (.int .i64 b1),.sc (.int .i64 b2),.sc (.int .i64 b3),.sc (.int .i64 b4),.sl (.slice tVec) a,.sl tCell C,.sl tWall W,.sl tVec D,.sl .int T]),(2,.row 95 tWall 0 false (W.take i)),(3,.box sB0)]⟩) (fun i=>i<=W.length) (fun i=>W.length - i) 0 ?_ (Nat.zero_le _) ?_
   ·refine Wk.nilB 0 8 10 95 tWall (by rfl) (by rfl) (by rfl) ?_
    simp only [List.set_cons_succ,List.set_cons_zero]
    refine Wk.mk [(2,10)] ?_
    try simp (maxSteps:=9^9) only[go_sem]
    try (and_intros<;>first|rfl|omega|exact ⟨_,rfl⟩)
   ·rintro i hi
    have hlen:(W.take i).length<=i:=by rw [List.length_take]; omega
    try simp (maxSteps:=9^9) only[go_sem]
    refine CondW_dec (fun hA=>?_) (fun hA=>?_)
    ·have hlt:i < W.length:=by omega
     have c5:=ownF_fn (h4 _ (nth_in (t:=tWall) hlt)).1
     have c6:=ownF_fn (h4 _ (nth_in (t:=tWall) hlt)).2.1
     have c7:=ownF_fn (h4 _ (nth_in (t:=tWall) hlt)).2.2
     have e:=take_snoc (t:=tWall) hlt
     try simp (maxSteps:=9^9) only[go_sem]
     repeat refine AI ?_
     repeat refine AI ?_
     refine cw c5 ?_
     try simp (maxSteps:=9^9) only[go_sem]
     repeat refine AI ?_
     refine cw c6 ?_
     try simp (maxSteps:=9^9) only[go_sem]
     repeat refine AI ?_
     refine cw c7 ?_
     try simp (maxSteps:=9^9) only[go_sem]
     repeat refine AI ?_
     refine LoopK.mk (i+1) ?_ (by omega) (by omega)
     rw [e]
     exact WK
    ·obtain rfl:i=W.length:=by omega
     have e:=List.take_length (l:=W)
     rw [e]
     try simp (maxSteps:=9^9) only[go_sem]
     all_goals repeat refine AI ?_
     all_goals first|kernel_rfl|omega|rfl
theorem indexFunc_cellC_fn (F:FuncId) (A:Ty) (x:A.den) (p:DCl->Bool) (l:List DCl) (hF:∀ y ∈ l,Fn Tryz.prog F (⟨tCell,y⟩ :: capD A x) false [⟨.bool,p y⟩]):Fn Tryz.prog 224 [⟨.slice tCell,l⟩,⟨.ext (.clo F) A,some x⟩] false [⟨.int,ixf (t:=tCell) p l⟩]:=by
 refine fe Tryz.func224 Tryz.ntmps224 Tryz.results224 fun hwf=>?_
 have hl:l.length<=9223372036854775807:=(hwf ⟨.slice tCell,l⟩ (by simp)).1
 try simp (maxSteps:=9^9) only[go_sem]
 refine LoopG.intro _ _ _ (fun i:Nat=>⟨[(0,.sl tCell l),(1,.ex (.clo F) A (some x)),(7,.sc (.int .i64 l.length)),(8,.sc (.int .i64 i))],[]⟩) (fun i=>∀ j < i,j < l.length->p (nth (t:=tCell) l j)=false) (fun i=>l.length - i) 0 ?_ (fun j h=>by simp at h) ?_
 ·exact WK
 ·rintro i h2
  try simp (maxSteps:=9^9) only[go_sem]
  refine CondW_dec (fun h3=>?_) (fun h3=>?_)
  ·have c1:=hF (nth (t:=tCell) l i) (nth_in (t:=tCell) (by omega))
   try simp (maxSteps:=9^9) only[go_sem]
   repeat refine AI ?_
   repeat refine AI ?_
   refine CallD.mk (c1) ?_
   try simp (maxSteps:=9^9) only[go_sem]
   refine CondW_b (fun h4=>?_) (fun h4=>?_)
   ·try simp (maxSteps:=9^9) only[go_sem]
    exact (ixf_at (by omega) h4 (fun j hj=>h2 j hj (by omega))).symm
   ·try simp (maxSteps:=9^9) only[go_sem]
    repeat refine AI ?_
    refine LoopK.mk (i+1) ?_ (fun j hj hl=>?_) (by omega)
    ·exact WK
    ·by_cases hj2:j < i
     ·exact h2 j hj2 hl
     ·rw [show j=i by omega]; exact h4
  ·try simp (maxSteps:=9^9) only[go_sem]
   exact (ixf_none fun j hj=>h2 j (by omega) hj).symm
theorem indexFunc_wallC_fn (F:FuncId) (A:Ty) (x:A.den) (p:DWl->Bool) (l:List DWl) (hF:∀ y ∈ l,Fn Tryz.prog F (⟨tWall,y⟩ :: capD A x) false [⟨.bool,p y⟩]):Fn Tryz.prog 227 [⟨.slice tWall,l⟩,⟨.ext (.clo F) A,some x⟩] false [⟨.int,ixf (t:=tWall) p l⟩]:=by
 refine fe Tryz.func227 Tryz.ntmps227 Tryz.results227 fun hwf=>?_
 have hl:l.length<=9223372036854775807:=(hwf ⟨.slice tWall,l⟩ (by simp)).1
 try simp (maxSteps:=9^9) only[go_sem]
 refine LoopG.intro _ _ _ (fun i:Nat=>⟨[(0,.sl tWall l),(1,.ex (.clo F) A (some x)),(7,.sc (.int .i64 l.length)),(8,.sc (.int .i64 i))],[]⟩) (fun i=>∀ j < i,j < l.length->p (nth (t:=tWall) l j)=false) (fun i=>l.length - i) 0 ?_ (fun j h=>by simp at h) ?_
 ·exact WK
 ·rintro i h2
  try simp (maxSteps:=9^9) only[go_sem]
  refine CondW_dec (fun h3=>?_) (fun h3=>?_)
  ·have c1:=hF (nth (t:=tWall) l i) (nth_in (t:=tWall) (by omega))
   try simp (maxSteps:=9^9) only[go_sem]
   repeat refine AI ?_
   repeat refine AI ?_
   refine CallD.mk (c1) ?_
   try simp (maxSteps:=9^9) only[go_sem]
   refine CondW_b (fun h4=>?_) (fun h4=>?_)
   ·try simp (maxSteps:=9^9) only[go_sem]
    exact (ixf_at (by omega) h4 (fun j hj=>h2 j hj (by omega))).symm
   ·try simp (maxSteps:=9^9) only[go_sem]
    repeat refine AI ?_
    refine LoopK.mk (i+1) ?_ (fun j hj hl=>?_) (by omega)
    ·exact WK
    ·by_cases hj2:j < i
     ·exact h2 j hj2 hl
     ·rw [show j=i by omega]; exact h4
  ·try simp (maxSteps:=9^9) only[go_sem]
   exact (ixf_none fun j hj=>h2 j (by omega) hj).symm
theorem indexFunc_doorC_fn (F:FuncId) (A:Ty) (x:A.den) (p:DV->Bool) (l:List DV) (hF:∀ y ∈ l,Fn Tryz.prog F (⟨tVec,y⟩ :: capD A x) false [⟨.bool,p y⟩]):Fn Tryz.prog 187 [⟨.slice tVec,l⟩,⟨.ext (.clo F) A,some x⟩] false [⟨.int,ixf (t:=tVec) p l⟩]:=by
 refine fe Tryz.func187 Tryz.ntmps187 Tryz.results187 fun hwf=>?_
 have hl:l.length<=9223372036854775807:=(hwf ⟨.slice tVec,l⟩ (by simp)).1
 try simp (maxSteps:=9^9) only[go_sem]
 refine LoopG.intro _ _ _ (fun i:Nat=>⟨[(0,.sl tVec l),(1,.ex (.clo F) A (some x)),(7,.sc (.int .i64 l.length)),(8,.sc (.int .i64 i))],[]⟩) (fun i=>∀ j < i,j < l.length->p (nth (t:=tVec) l j)=false) (fun i=>l.length - i) 0 ?_ (fun j h=>by simp at h) ?_
 ·exact WK
 ·rintro i h2
  try simp (maxSteps:=9^9) only[go_sem]
  refine CondW_dec (fun h3=>?_) (fun h3=>?_)
  ·have c1:=hF (nth (t:=tVec) l i) (nth_in (t:=tVec) (by omega))
   try simp (maxSteps:=9^9) only[go_sem]
   repeat refine AI ?_
   repeat refine AI ?_
   refine CallD.mk (c1) ?_
   try simp (maxSteps:=9^9) only[go_sem]
   refine CondW_b (fun h4=>?_) (fun h4=>?_)
   ·try simp (maxSteps:=9^9) only[go_sem]
    exact (ixf_at (by omega) h4 (fun j hj=>h2 j hj (by omega))).symm
   ·try simp (maxSteps:=9^9) only[go_sem]
    repeat refine AI ?_
    refine LoopK.mk (i+1) ?_ (fun j hj hl=>?_) (by omega)
    ·exact WK
    ·by_cases hj2:j < i
     ·exact h2 j hj2 hl
     ·rw [show j=i by omega]; exact h4
  ·try simp (maxSteps:=9^9) only[go_sem]
   exact (ixf_none fun j hj=>h2 j (by omega) hj).symm
theorem CellAtC_fn (k:DCl) (p:DP) (hp:okPt p=true):Fn Tryz.prog 225 [⟨tCell,k⟩,⟨.ext .ref tPoint,some p⟩] false [⟨.bool,ikD p k⟩]:=by
 have c1:=InCell_fn k p hp
 obtain ⟨k1,k2,k3,k4,k5,k6⟩:=k
 obtain ⟨p1,p2⟩:=p
 refine fe Tryz.func225 Tryz.ntmps225 Tryz.results225 fun hwf=>?_
 try simp (maxSteps:=9^9) only[go_sem]
 repeat refine AI ?_
 repeat refine AI ?_
 refine cw c1 ?_
 try simp (maxSteps:=9^9) only[go_sem]
 all_goals repeat refine AI ?_
 all_goals first|kernel_rfl|omega|rfl
theorem WallAtC_fn (k:DWl) (p:DP) (hp:okPt p=true):Fn Tryz.prog 228 [⟨tWall,k⟩,⟨.ext .ref tPoint,some p⟩] false [⟨.bool,iyD p k⟩]:=by
 have c1:=InWall_fn k p hp
 obtain ⟨k1,k2,k3⟩:=k
 obtain ⟨p1,p2⟩:=p
 refine fe Tryz.func228 Tryz.ntmps228 Tryz.results228 fun hwf=>?_
 try simp (maxSteps:=9^9) only[go_sem]
 repeat refine AI ?_
 repeat refine AI ?_
 refine cw c1 ?_
 try simp (maxSteps:=9^9) only[go_sem]
 all_goals repeat refine AI ?_
 all_goals first|kernel_rfl|omega|rfl
theorem cellOfC_fn (d:DV) (w:Int):Fn Tryz.prog 188 [⟨tVec,d⟩,⟨.ext .ref .int,some w⟩] false [⟨.bool,decide ((d.2:Int)=w)⟩]:=by
 obtain ⟨d1,d2⟩:=d
 refine fe Tryz.func188 Tryz.ntmps188 Tryz.results188 fun hwf=>?_
 try simp (maxSteps:=9^9) only[go_sem]
 repeat refine AI ?_
 all_goals repeat refine AI ?_
 all_goals first|kernel_rfl|omega|rfl
theorem CellAt_fn (x:DSl) (p:DP) (hp:okPt p=true):Fn Tryz.prog 185 [⟨tSlice,x⟩,⟨tPoint,p⟩] false [⟨.int,ixf (t:=tCell) (ikD p) x.2.2.2.2.1⟩]:=by
 have c1:=indexFunc_cellC_fn 225 (.ext .ref tPoint) (some p) (ikD p) x.2.2.2.2.1 (fun y _=>CellAtC_fn y p hp)
 obtain ⟨hd,o,⟨⟨b1,b2⟩,⟨b3,b4⟩⟩,a,C,W,D,T⟩:=x
 obtain ⟨p1,p2⟩:=p
 dsimp only at c1 ⊢
 refine fe Tryz.func185 Tryz.ntmps185 Tryz.results185 fun hwf=>?_
 try simp (maxSteps:=9^9) only[go_sem]
 repeat refine AI ?_
 repeat refine AI ?_
 refine CallK.mk (c1) ?_
 try simp (maxSteps:=9^9) only[go_sem]
 all_goals repeat refine AI ?_
 all_goals first|kernel_rfl|omega|rfl
theorem WallAt_fn (x:DSl) (p:DP) (hp:okPt p=true):Fn Tryz.prog 186 [⟨tSlice,x⟩,⟨tPoint,p⟩] false [⟨.int,ixf (t:=tWall) (iyD p) x.2.2.2.2.2.1⟩]:=by
 have c1:=indexFunc_wallC_fn 228 (.ext .ref tPoint) (some p) (iyD p) x.2.2.2.2.2.1 (fun y _=>WallAtC_fn y p hp)
 obtain ⟨hd,o,⟨⟨b1,b2⟩,⟨b3,b4⟩⟩,a,C,W,D,T⟩:=x
 obtain ⟨p1,p2⟩:=p
 dsimp only at c1 ⊢
 refine fe Tryz.func186 Tryz.ntmps186 Tryz.results186 fun hwf=>?_
 try simp (maxSteps:=9^9) only[go_sem]
 repeat refine AI ?_
 repeat refine AI ?_
 refine CallK.mk (c1) ?_
 try simp (maxSteps:=9^9) only[go_sem]
 all_goals repeat refine AI ?_
 all_goals first|kernel_rfl|omega|rfl
theorem ixf_rng {t:Ty} (p:t.den->Bool) (l:List t.den):-1<=ixf p l/\ixf p l < (l.length:Int):=by
 unfold ixf
 split
 ·rename_i i h
  obtain ⟨hi,_⟩:=List.findIdx?_eq_some_iff_getElem.1 h
  exact ⟨by omega,by omega⟩
 ·exact ⟨by omega,by omega⟩
noncomputable def wlX (x:DSl) (p:DP):Int:=ixf (t:=tWall) (iyD p) x.2.2.2.2.2.1
noncomputable def clX (x:DSl) (p:DP):Int:=ixf (t:=tCell) (ikD p) x.2.2.2.2.1
noncomputable def drX (x:DSl) (p:DP):Int:=ixf (t:=tVec) (fun d=>decide ((d.2:Int)=wlX x p)) x.2.2.2.2.2.2.1
noncomputable def clO (x:DSl) (p:DP):Int × Int:=if 0<=clX x p then (clX x p,-1) else if wlX x p < 0\/drX x p < 0 then (-1,-1) else ((nth (t:=tVec) x.2.2.2.2.2.2.1 (drX x p).toNat).1,wlX x p)
theorem cellOf_fn (x:DSl) (p:DP) (hp:okPt p=true):Fn Tryz.prog 147 [⟨tSlice,x⟩,⟨tPoint,p⟩] false [⟨.int,(clO x p).1⟩,⟨.int,(clO x p).2⟩]:=by
 have c1:=CellAt_fn x p hp
 have c2:=WallAt_fn x p hp
 have c3:=indexFunc_doorC_fn 188 (.ext .ref .int) (some (wlX x p)) (fun d=>decide ((d.2:Int)=wlX x p)) x.2.2.2.2.2.2.1 (fun y _=>cellOfC_fn y _)
 have r:=ixf_rng (t:=tVec) (fun d=>decide ((d.2:Int)=wlX x p)) x.2.2.2.2.2.2.1
 unfold clO
 change Fn _ _ _ _ [⟨.int,clX x p⟩] at c1
 change Fn _ _ _ _ [⟨.int,wlX x p⟩] at c2
 change Fn _ _ _ _ [⟨.int,drX x p⟩] at c3
 change -1<=drX x p/\drX x p < _ at r
 generalize clX x p=n1 at *
 generalize drX x p=n3 at *
 generalize wlX x p=n2 at *
 obtain ⟨hd,o,⟨⟨b1,b2⟩,⟨b3,b4⟩⟩,a,C,W,D,T⟩:=x
 obtain ⟨p1,p2⟩:=p
 dsimp only at r c3 ⊢
 by_cases g1:0<=n1
 ·rw [if_pos g1]
  refine fe Tryz.func147 Tryz.ntmps147 Tryz.results147 fun hwf=>?_
  try simp (maxSteps:=9^9) only[go_sem]
  repeat refine AI ?_
  refine cw c1 ?_
  try simp (maxSteps:=9^9) only[go_sem]
  refine CondW_dec (fun hA=>?_) (fun hA=>?_)
  ·try simp (maxSteps:=9^9) only[go_sem]
   all_goals repeat refine AI ?_
   all_goals first|kernel_rfl|omega|rfl
  ·omega
 rw [if_neg g1]
 by_cases g2:n2 < 0
 ·rw [if_pos (.inl g2)]
  refine fe Tryz.func147 Tryz.ntmps147 Tryz.results147 fun hwf=>?_
  try simp (maxSteps:=9^9) only[go_sem]
  repeat refine AI ?_
  refine cw c1 ?_
  try simp (maxSteps:=9^9) only[go_sem]
  refine CondW_dec (fun hA=>?_) (fun hA=>?_)
  ·omega
  ·try simp (maxSteps:=9^9) only[go_sem]
   repeat refine AI ?_
   refine cw c2 ?_
   try simp (maxSteps:=9^9) only[go_sem]
   repeat refine AI ?_
   repeat refine AI ?_
   refine CallK.mk (c3) ?_
   try simp (maxSteps:=9^9) only[go_sem]
   try simp (maxSteps:=9^9) only[go_sem,decide_eq_true g2]
   all_goals repeat refine AI ?_
   all_goals first|kernel_rfl|omega|rfl
 by_cases g3:n3 < 0
 ·rw [if_pos (.inr g3)]
  refine fe Tryz.func147 Tryz.ntmps147 Tryz.results147 fun hwf=>?_
  try simp (maxSteps:=9^9) only[go_sem]
  repeat refine AI ?_
  refine cw c1 ?_
  try simp (maxSteps:=9^9) only[go_sem]
  refine CondW_dec (fun hA=>?_) (fun hA=>?_)
  ·omega
  ·try simp (maxSteps:=9^9) only[go_sem]
   repeat refine AI ?_
   refine cw c2 ?_
   try simp (maxSteps:=9^9) only[go_sem]
   repeat refine AI ?_
   repeat refine AI ?_
   refine CallK.mk (c3) ?_
   try simp (maxSteps:=9^9) only[go_sem]
   try simp (maxSteps:=9^9) only[go_sem,decide_eq_false g2,decide_eq_true g3]
   all_goals repeat refine AI ?_
   all_goals first|kernel_rfl|omega|rfl
 ·rw [if_neg (by omega)]
  refine fe Tryz.func147 Tryz.ntmps147 Tryz.results147 fun hwf=>?_
  try simp (maxSteps:=9^9) only[go_sem]
  repeat refine AI ?_
  refine cw c1 ?_
  try simp (maxSteps:=9^9) only[go_sem]
  refine CondW_dec (fun hA=>?_) (fun hA=>?_)
  ·omega
  ·try simp (maxSteps:=9^9) only[go_sem]
   repeat refine AI ?_
   refine cw c2 ?_
   try simp (maxSteps:=9^9) only[go_sem]
   repeat refine AI ?_
   repeat refine AI ?_
   refine CallK.mk (c3) ?_
   try simp (maxSteps:=9^9) only[go_sem]
   try simp (maxSteps:=9^9) only[go_sem,decide_eq_false g2,decide_eq_false g3]
   all_goals repeat refine AI ?_
   all_goals first|kernel_rfl|omega|rfl
noncomputable def ptX (x:DSl) (p:DP):Int:=if 0<=(clO x p).1/\(clO x p).1<=(x.2.2.2.2.2.2.2.length:Int) - 1 then nth (t:=.int) x.2.2.2.2.2.2.2 (clO x p).1.toNat else -1
theorem PartAt_fn (x:DSl) (p:DP) (hp:okPt p=true) (hn:x.2.2.2.2.2.2.2.length<=1048576):Fn Tryz.prog 106 [⟨tSlice,x⟩,⟨tPoint,p⟩] false [⟨.int,ptX x p⟩]:=by
 have c1:=cellOf_fn x p hp
 unfold ptX
 generalize clO x p=n at *
 obtain ⟨n1,n2⟩:=n
 obtain ⟨hd,o,⟨⟨b1,b2⟩,⟨b3,b4⟩⟩,a,C,W,D,T⟩:=x
 obtain ⟨p1,p2⟩:=p
 dsimp only at *
 have c2:=within_fn n1 0 ((T.length:Int) - 1)
 by_cases g:0<=n1/\n1<=(T.length:Int) - 1
 ·rw [decide_eq_true g] at c2
  rw [if_pos g]
  refine fe Tryz.func106 Tryz.ntmps106 Tryz.results106 fun hwf=>?_
  try simp (maxSteps:=9^9) only[go_sem]
  repeat refine AI ?_
  refine cw c1 ?_
  try simp (maxSteps:=9^9) only[go_sem]
  repeat refine AI ?_
  repeat refine AI ?_
  refine cw c2 ?_
  try simp (maxSteps:=9^9) only[go_sem]
  all_goals repeat refine AI ?_
  all_goals first|kernel_rfl|omega|rfl
 ·rw [decide_eq_false g] at c2
  rw [if_neg g]
  refine fe Tryz.func106 Tryz.ntmps106 Tryz.results106 fun hwf=>?_
  try simp (maxSteps:=9^9) only[go_sem]
  repeat refine AI ?_
  refine cw c1 ?_
  try simp (maxSteps:=9^9) only[go_sem]
  repeat refine AI ?_
  repeat refine AI ?_
  refine cw c2 ?_
  try simp (maxSteps:=9^9) only[go_sem]
  all_goals repeat refine AI ?_
  all_goals first|kernel_rfl|omega|rfl
def cntD (T:List Int):Nat:=(Lib.compact (T.mergeSort leZ)).length
theorem cloneIL_fn (l:List Int) (h0:0 < l.length) (hn:l.length<=1048576):FnG Tryz.prog 64 [⟨tInts,l⟩] 3 .int l:=by
 refine fnG_enter tabOK mixes Tryz.func64 rfl rfl _ Tryz.ntmps64 _ Tryz.results64 (by simp) fun hwf=>?_
 try simp (maxSteps:=9^9) only[go_sem]
 refine NilW.non (by intro e; rw [e] at h0; simp at h0) ?_
 try simp (maxSteps:=9^9) only[go_sem]
 repeat refine AI ?_
 exact ⟨0,1,rfl,rfl⟩
theorem CountParts_fn (x:DSl) (hn:x.2.2.2.2.2.2.2.length<=1048576):Fn Tryz.prog 146 [⟨tSlice,x⟩] false [⟨.int,(cntD x.2.2.2.2.2.2.2:Int)⟩]:=by
 obtain ⟨hd,o,⟨⟨b1,b2⟩,⟨b3,b4⟩⟩,a,C,W,D,T⟩:=x
 dsimp only at *
 rcases Nat.eq_zero_or_pos T.length with h0|h0
 ·obtain rfl:T=[]:=List.eq_nil_of_length_eq_zero h0
  have c1:=clone_fn [] (by simp)
  have c2:=sortE_fn
  have c3:=compactE_fn
  have e:cntD ([]:List Int)=0:=by simp [cntD,Lib.compact,Lib.compactUpTo]
  rw [e]
  refine fe Tryz.func146 Tryz.ntmps146 Tryz.results146 fun hwf=>?_
  try simp (maxSteps:=9^9) only[go_sem]
  repeat refine AI ?_
  refine cw c1 ?_
  try simp (maxSteps:=9^9) only[go_sem]
  repeat refine AI ?_
  refine cw c2 ?_
  try simp (maxSteps:=9^9) only[go_sem]
  repeat refine AI ?_
  refine cw c3 ?_
  try simp (maxSteps:=9^9) only[go_sem]
  all_goals repeat refine AI ?_
  all_goals first|kernel_rfl|omega|rfl
 ·have c1:=cloneIL_fn T h0 hn
  have c2:=sortI_fn T hn
  have c3:=compactI_fn (T.mergeSort leZ) (by rw [List.length_mergeSort]; exact hn)
  unfold cntD
  refine fe Tryz.func146 Tryz.ntmps146 Tryz.results146 fun hwf=>?_
  try simp (maxSteps:=9^9) only[go_sem]
  repeat refine AI ?_
  refine CallW.g (c1) ?_
  try simp (maxSteps:=9^9) only[go_sem]
  repeat refine AI ?_
  refine CallW.r (k:=1) (ver:=0) (o:=true) (c2) ?_
  try simp (maxSteps:=9^9) only[go_sem]
  repeat refine AI ?_
  refine CallW.r (k:=1) (ver:=0) (o:=true) (c3) ?_
  try simp (maxSteps:=9^9) only[go_sem]
  all_goals repeat refine AI ?_
  all_goals first|kernel_rfl|omega|rfl
abbrev tRoadO:Ty:=.prod tScene (.prod (.slice tSlice) (.prod tInts (.ext .opq .int)))
def frN (S:List DSl):Nat->Nat
 | 0=>0
 | k+1=>frN S k+cntD (nth (t:=tSlice) S k).2.2.2.2.2.2.2
theorem cntD_le (T:List Int):cntD T<=T.length:=by
 have:=cmpI_len (T.mergeSort leZ)
 rw [List.length_mergeSort] at this
 exact this
theorem frN_le {S:List DSl} (hS:∀ x ∈ S,x.2.2.2.2.2.2.2.length<=1048576):∀ k,k<=S.length->frN S k<=1048576 * k
 | 0,_=>Nat.le_refl _
 | k+1,h=>by
  have h1:=frN_le hS k (by omega)
  have h2:=cntD_le (nth (t:=tSlice) S k).2.2.2.2.2.2.2
  have h3:=hS _ (nth_in (t:=tSlice) (i:=k) (by omega))
  rw [frN]; omega
set_option maxHeartbeats 2000000 in
theorem firstRegion_fn (s:DSn) (S:List DSl) (op:List Int) (h:Nat) (hh:h<=S.length) (hl:S.length<=100) (hS:∀ x ∈ S,x.2.2.2.2.2.2.2.length<=1048576):Fn Tryz.prog 105 [⟨tRoadO,(s,S,op,some (0:Int))⟩,⟨.int,(h:Int)⟩] false [⟨.int,(frN S h:Int)⟩]:=by
 have hfl:=frN_le hS
 obtain ⟨⟨a1,a2⟩,⟨b1,b2⟩,r,ob,tb⟩:=s
 have htl:(S.take h).length=h:=by rw [List.length_take]; omega
 refine fe Tryz.func105 Tryz.ntmps105 Tryz.results105 fun hwf=>?_
 try simp (maxSteps:=9^9) only[go_sem]
 repeat refine AI ?_
 refine LoopG.intro _ _ _ (fun k:Nat=>⟨[(5,.sc (.int .i64 (frN S k:Nat))),(11,.sl tSlice (S.take h)),(12,.sc (.int .i64 h)),(13,.sc (.int .i64 k))],[]⟩) (fun k=>k<=h) (fun k=>h - k) 0 ?_ (Nat.zero_le _) ?_
 ·exact WK
 ·rintro k hk
  have hk1:=hfl k (by omega)
  have hk2:=hfl (k+1)
  try simp (maxSteps:=9^9) only[go_sem]
  refine CondW_dec (fun hA=>?_) (fun hA=>?_)
  ·have hkS:k < S.length:=by omega
   have e:nth (t:=tSlice) (S.take h) k=nth (t:=tSlice) S k:=by
    rw [nth_lt (t:=tSlice) (by omega),nth_lt (t:=tSlice) hkS,List.getElem_take]
   have hx:=hS _ (nth_in (t:=tSlice) hkS)
   have c1:=CountParts_fn _ hx
   have hc:=cntD_le (nth (t:=tSlice) S k).2.2.2.2.2.2.2
   have e2:((frN S (k+1):Nat):Int)=(frN S k:Nat)+(cntD (nth (t:=tSlice) S k).2.2.2.2.2.2.2:Nat):=by rw [frN]; omega
   try simp (maxSteps:=9^9) only[go_sem]
   repeat refine AI ?_
   rw [e]
   repeat refine AI ?_
   refine cw c1 ?_
   try simp (maxSteps:=9^9) only[go_sem]
   repeat refine AI ?_
   refine LoopK.mk (k+1) ?_ (by omega) (by omega)
   rw [e2]
   exact WK
  ·obtain rfl:k=h:=by omega
   try simp (maxSteps:=9^9) only[go_sem]
   all_goals repeat refine AI ?_
   all_goals first|kernel_rfl|omega|rfl
set_option maxHeartbeats 2000000 in
theorem RegionCount_fn (s:DSn) (S:List DSl) (op:List Int) (hl:S.length<=100) (hS:∀ x ∈ S,x.2.2.2.2.2.2.2.length<=1048576):Fn Tryz.prog 51 [⟨tRoadO,(s,S,op,some (0:Int))⟩] false [⟨.int,(frN S S.length:Int)⟩]:=by
 have c1:=firstRegion_fn s S op S.length (Nat.le_refl _) hl hS
 obtain ⟨⟨a1,a2⟩,⟨b1,b2⟩,r,ob,tb⟩:=s
 refine fe Tryz.func51 Tryz.ntmps51 Tryz.results51 fun hwf=>?_
 try simp (maxSteps:=9^9) only[go_sem]
 repeat refine AI ?_
 refine cw c1 ?_
 try simp (maxSteps:=9^9) only[go_sem]
 all_goals repeat refine AI ?_
 all_goals first|kernel_rfl|omega|rfl
noncomputable def rgO (S:List DSl) (h:Nat) (p:DP):Int:=if ptX (nth (t:=tSlice) S h) p=-1 then -1 else (frN S h:Int)+ptX (nth (t:=tSlice) S h) p
set_option maxHeartbeats 2000000 in
theorem RegionOf_fn (s:DSn) (S:List DSl) (op:List Int) (h:Nat) (p:DP) (hp:okPt p=true) (hh:h < S.length) (hl:S.length<=100) (hS:∀ x ∈ S,x.2.2.2.2.2.2.2.length<=1048576) (hb:(ptX (nth (t:=tSlice) S h) p).natAbs<=1048576):Fn Tryz.prog 54 [⟨tRoadO,(s,S,op,some (0:Int))⟩,⟨tStep,((h:Int),p)⟩] false [⟨.int,rgO S h p⟩]:=by
 have c0:=within_fn (h:Int) 0 ((S.length:Int) - 1)
 rw [decide_eq_true (by omega)] at c0
 have c1:=PartAt_fn (nth (t:=tSlice) S h) p hp (hS _ (nth_in (t:=tSlice) hh))
 have c2:=firstRegion_fn s S op h (by omega) hl hS
 have hfr:=frN_le hS h (by omega)
 obtain ⟨⟨a1,a2⟩,⟨b1,b2⟩,r,ob,tb⟩:=s
 obtain ⟨p1,p2⟩:=p
 unfold rgO
 generalize ptX (nth (t:=tSlice) S h) (p1,p2)=n at *
 generalize hfe:frN S h=m at *
 refine fe Tryz.func54 Tryz.ntmps54 Tryz.results54 fun hwf=>?_
 try simp (maxSteps:=9^9) only[go_sem]
 repeat refine AI ?_
 repeat refine AI ?_
 refine cw c0 ?_
 try simp (maxSteps:=9^9) only[go_sem]
 repeat refine AI ?_
 repeat refine AI ?_
 refine cw c1 ?_
 try simp (maxSteps:=9^9) only[go_sem]
 repeat refine AI ?_
 refine CondW_dec (fun hA=>?_) (fun hA=>?_)
 ·rw [if_pos hA]
  try simp (maxSteps:=9^9) only[go_sem]
  all_goals repeat refine AI ?_
  all_goals first|kernel_rfl|omega|rfl
 ·rw [if_neg hA]
  try simp (maxSteps:=9^9) only[go_sem]
  repeat refine AI ?_
  refine cw c2 ?_
  try simp (maxSteps:=9^9) only[go_sem]
  all_goals repeat refine AI ?_
  all_goals first|kernel_rfl|omega|rfl
end Go.Proofs.YtcbionahcldlnaaGreat.DW
