/-
  The law FnExactSameSteps returns true: the walk through it by the contracts.
-/
import Derived.Test.YtjkbecgenjhaaaaSz
import Derived.Test.YtjkbecgenjhaaaaTo
import Derived.Test.YtjkbecgenjhaaaaEq
import Derived.Test.YtjkbecgenjhaaaaSameSteps
namespace Go.Proofs.Ytjkbecgenjhaaaa
open Go.RowKit

set_option maxRecDepth 100000 in
set_option maxHeartbeats 2000000 in
theorem law_FnExactSameSteps (a0 : Value) (x0 : DStepS) (a1 : Value) (x1 : DStepS) (w : World) (hx0 : Has RStepS w [a0] x0) (hx1 : Has RStepS w [a1] x1) :
    Calls Try.prog 4 #[a0, a1] w (Post fun r w' => r = .bool true ∧ Below w.heap.size w w') := by
  have A0 := Lib.hid hx0; clear hx0
  have A1 := Lib.hid hx1; clear hx1
  have hb0 := Below.refl w.heap.size w
  go_enter Try.func4, Try.ntmps4
  go_wp2_with fail
  have hp1 := (Below.refl w.heap.size w)
  refine (szStepS_any _ _ _ _ (A0.out.below hp1) (by omega) (by omega)).mono ?_
  rintro e w1 ⟨v, rfl, rfl, hc1⟩
  have hs1 := Below.up hp1 hc1 (by simp <;> omega)
  have hb1 := hs1
  have hr0 := szr_lo 1048576 ((x0.length + tStepS x0)) (by omega)
  go_wp2_with fail
  · go_ret
    exact ⟨_, rfl, rfl, hb1⟩
  have hge0 : 0 ≤ szr 1048576 ((x0.length + tStepS x0)) := by assumption
  have hp2 := (Below.refl w1.heap.size w1)
  refine (szStepS_any _ _ _ _ ((A1.out.below hs1).below hp2) hge0 (by omega)).mono ?_
  rintro e w2 ⟨v, rfl, rfl, hc2⟩
  have hs2 := Below.up hp2 hc2 (by simp <;> omega)
  have hb2 := hb1.trans (hs2.mono hb1.size)
  rw [szr_add _ _ _ hge0]
  have hr1 := szr_lo 1048576 ((x0.length + tStepS x0) + ((x1.length + tStepS x1))) (by omega)
  go_wp2_with fail
  · go_ret
    exact ⟨_, rfl, rfl, hb2⟩
  have hge1 : 0 ≤ szr 1048576 ((x0.length + tStepS x0) + ((x1.length + tStepS x1))) := by assumption
  have hok := (szr_ok hge1).1
  have hle0 : (x0.length + tStepS x0) ≤ 1048576 := by omega
  have HLE0 := Lib.hid hle0; clear hle0
  have hle1 : (x1.length + tStepS x1) ≤ 1048576 := by omega
  have HLE1 := Lib.hid hle1; clear hle1
  clear hok hr0 hge0 hr1 hge1
  have hp3 := (Below.refl w2.heap.size w2)
  refine (toStepS_any _ _ _ (((A0.out.below hs1).below hs2).below hp3) HLE0.out).mono ?_
  rintro e w3 ⟨vhq0, rfl, hq0, hc3⟩
  have hs3 := Below.up hp3 hc3 (by simp <;> omega)
  have hb3 := hb2.trans (hs3.mono hb2.size)
  obtain ⟨adq0, capq0, rfl, hclq0, hcmq0⟩ := hq0.has.len_slice
  clear hclq0 hcmq0
  have Fq01 := Lib.hid hq0
  clear hq0
  go_wp2_with fail
  have hp4 := (Below.refl w3.heap.size w3)
  refine (toStepS_any _ _ _ ((((A1.out.below hs1).below hs2).below hs3).below hp4) HLE1.out).mono ?_
  rintro e w4 ⟨vhq2, rfl, hq2, hc4⟩
  have hs4 := Below.up hp4 hc4 (by simp <;> omega)
  have hb4 := hb3.trans (hs4.mono hb3.size)
  obtain ⟨adq2, capq2, rfl, hclq2, hcmq2⟩ := hq2.has.len_slice
  clear hclq2 hcmq2
  have Fq23 := Lib.hid hq2
  clear hq2
  go_wp2_with fail
  have hp5 := (Below.refl w4.heap.size w4)
  refine (specSameSteps_any _ _ _ _ _ (((Fq01.out.below hs4).below hp5)).has ((Fq23.out.below hp5)).has).mono ?_
  rintro e w5 ⟨v, rfl, rfl, hc5⟩
  have hs5 := Below.up hp5 hc5 (by simp <;> omega)
  have hb5 := hb4.trans (hs5.mono hb4.size)
  go_wp2_with fail
  have hp6 := (Below.refl w5.heap.size w5)
  refine (toStepS_any _ _ _ ((((((A0.out.below hs1).below hs2).below hs3).below hs4).below hs5).below hp6) HLE0.out).mono ?_
  rintro e w6 ⟨vhq4, rfl, hq4, hc6⟩
  have hs6 := Below.up hp6 hc6 (by simp <;> omega)
  have hb6 := hb5.trans (hs6.mono hb5.size)
  obtain ⟨adq4, capq4, rfl, hclq4, hcmq4⟩ := hq4.has.len_slice
  clear hclq4 hcmq4
  have Fq45 := Lib.hid hq4
  clear hq4
  go_wp2_with fail
  have hp7 := (Below.refl w6.heap.size w6)
  refine (toStepS_any _ _ _ (((((((A1.out.below hs1).below hs2).below hs3).below hs4).below hs5).below hs6).below hp7) HLE1.out).mono ?_
  rintro e w7 ⟨vhq6, rfl, hq6, hc7⟩
  have hs7 := Below.up hp7 hc7 (by simp <;> omega)
  have hb7 := hb6.trans (hs7.mono hb6.size)
  obtain ⟨adq6, capq6, rfl, hclq6, hcmq6⟩ := hq6.has.len_slice
  clear hclq6 hcmq6
  have Fq67 := Lib.hid hq6
  clear hq6
  go_wp2_with fail
  have hp8 := (Below.refl w7.heap.size w7)
  refine (implSameSteps_any _ _ _ _ _ (((Fq45.out.below hs7).below hp8)).has ((Fq67.out.below hp8)).has).mono ?_
  rintro e w8 ⟨v, rfl, rfl, hc8⟩
  have hs8 := Below.up hp8 hc8 (by simp <;> omega)
  have hb8 := hb7.trans (hs8.mono hb7.size)
  go_wp2_with fail
  have hp9 := (Below.refl w8.heap.size w8)
  refine (toStepS_any _ _ _ (((((((((A0.out.below hs1).below hs2).below hs3).below hs4).below hs5).below hs6).below hs7).below hs8).below hp9) HLE0.out).mono ?_
  rintro e w9 ⟨vhq8, rfl, hq8, hc9⟩
  have hs9 := Below.up hp9 hc9 (by simp <;> omega)
  have hb9 := hb8.trans (hs9.mono hb8.size)
  obtain ⟨adq8, capq8, rfl, hclq8, hcmq8⟩ := hq8.has.len_slice
  clear hclq8 hcmq8
  have Fq89 := Lib.hid hq8
  clear hq8
  go_wp2_with fail
  have hp10 := (Below.refl w9.heap.size w9)
  refine (eqStepS_any _ _ _ _ _ (((((Fq45.out.below hs7).below hs8).below hs9).below hp10)).has ((Fq89.out.below hp10)).has).mono ?_
  rintro e w10 ⟨v, rfl, rfl, hc10⟩
  have hs10 := Below.up hp10 hc10 (by simp <;> omega)
  have hb10 := hb9.trans (hs10.mono hb9.size)
  rw [eqb_true rfl]
  go_wp2_with fail
  have hp11 := (Below.refl w10.heap.size w10)
  refine (toStepS_any _ _ _ (((((((((((A1.out.below hs1).below hs2).below hs3).below hs4).below hs5).below hs6).below hs7).below hs8).below hs9).below hs10).below hp11) HLE1.out).mono ?_
  rintro e w11 ⟨vhq10, rfl, hq10, hc11⟩
  have hs11 := Below.up hp11 hc11 (by simp <;> omega)
  have hb11 := hb10.trans (hs11.mono hb10.size)
  obtain ⟨adq10, capq10, rfl, hclq10, hcmq10⟩ := hq10.has.len_slice
  clear hclq10 hcmq10
  have Fq1011 := Lib.hid hq10
  clear hq10
  go_wp2_with fail
  have hp12 := (Below.refl w11.heap.size w11)
  refine (eqStepS_any _ _ _ _ _ ((((((Fq67.out.below hs8).below hs9).below hs10).below hs11).below hp12)).has ((Fq1011.out.below hp12)).has).mono ?_
  rintro e w12 ⟨v, rfl, rfl, hc12⟩
  have hs12 := Below.up hp12 hc12 (by simp <;> omega)
  have hb12 := hb11.trans (hs12.mono hb11.size)
  rw [eqb_true rfl]
  go_wp2
  go_ret
  exact ⟨_, rfl, rfl, hb12⟩
end Go.Proofs.Ytjkbecgenjhaaaa
