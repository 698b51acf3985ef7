/-
  Proved: for every scene, every heading and every two points that can be read, the law FnExactMoveClearance returns true and leaves its arguments as they were. Condition: none.
-/
import Derived.OpenShut
import Derived.ShutString
import Derived.ChangeOld
import Derived.Test.YtffdhjnbppagjaaGreatKW1
set_option linter.all false
namespace Go.Proofs.YtffdhjnbppagjaaGreat.pFnExactMoveClearance
open Go.ChangeShapes Go.WideShapes Go.ChangeAt Go.RowKit
theorem own : ownKnob Tryz.prog.godebug = none := by kernel_rfl
theorem laidOut : laidOutB Tryz.prog = true := by kernel_rfl
set_option maxRecDepth 100000 in
theorem lifted (os : Os) (started : os.Started) (H : Type) (enc : TypeId × Value → H) :
    ReturnsInHanded {} Tryz.checked os 3 .any (Rows.fnExactMoveClearanceSpec.pre6 enc Tryz.prog Tryz.f3 Rows.fnExactMoveClearanceRow.domain false) (Rows.fnExactMoveClearanceSpec.post enc Tryz.prog Tryz.f3 false true false false) := by
  refine returnsInHanded_of_change (C := Tryz.checked) own started (by kernel_rfl) Tryz.func3
    (ChangeSpec.witness6 (enc := enc) (C := Tryz.checked) false ⟨#[], #[.agg #[.int .i64 0, .int .i64 0, .int .i64 0, .int .i64 0, .slice none 0 0, .slice none 0 0, .slice none 0 0], .int .i64 0, .agg #[.bool false, .slice none 0 0, .slice none 0 0, .bool false, .slice none 0 0, .slice none 0 0], .agg #[.bool false, .slice none 0 0, .slice none 0 0, .bool false, .slice none 0 0, .slice none 0 0]], []⟩ 8 (by kernel_rfl) (by kernel_rfl) (by kernel_rfl) (by kernel_rfl)) ?_
  intro W base args ds gs before hval0 hW hcnd _
  have hval : ∀ (j : Nat) t v, Tryz.f3.params[j]? = some t → args[j]? = some v → Value.okWide Tryz.prog W .any base t v := hval0
  have hW' := hW
  obtain ⟨p, q, hA0, hV, rfl, hfz, hnd⟩ := hW
  have hA : DataW.TrodAll enc Tryz.prog W 0 (fun _ => true) true Tryz.f3.params.toList args.toList ds p := hA0
  rw [Tryz.params3] at hA hval
  obtain ⟨v0, vs0, d0, ds0, p0, q0, hargs, rfl, rfl, h0, r0⟩ := trodAll_cons hA
  obtain ⟨v1, vs1, d1, ds1, p1, q1, rfl, rfl, rfl, h1, r1⟩ := trodAll_cons r0
  obtain ⟨v2, vs2, d2, ds2, p2, q2, rfl, rfl, rfl, h2, r2⟩ := trodAll_cons r1
  obtain ⟨v3, vs3, d3, ds3, p3, q3, rfl, rfl, rfl, h3, r3⟩ := trodAll_cons r2
  obtain ⟨rfl, rfl, rfl⟩ := trodAll_nil r3
  obtain rfl : args = #[v0, v1, v2, v3] := by cases args; simp_all
  obtain ⟨rfl, rfl⟩ := trodVars_none hV
  have k0 := h0
  have lt0 : ∀ x ∈ p0, x.block < W.heap.size := by obtain ⟨m, hm⟩ := k0; exact DataW.trod_lt m _ _ _ hm
  obtain ⟨cs0, e0, hz0⟩ := okWide_struct Tryz.underlying27 (hval 0 27 v0 rfl rfl)
  subst e0
  obtain ⟨l0⟩ := cs0
  obtain ⟨c0_0, c0_1, c0_2, c0_3, c0_4, c0_5, c0_6, rfl⟩ := list7 (hz0.trans (show Tryz.prog.cellsOf 27 = 7 by kernel_rfl))
  obtain ⟨x0, w0⟩ : ∃ x, Has RScene W [c0_0, c0_1, c0_2, c0_3, c0_4, c0_5, c0_6] x := by obtain ⟨fuel, hf⟩ := h0; exact oScene _ _ _ hf
  have k1 := h1
  have lt1 : ∀ x ∈ p1, x.block < W.heap.size := by obtain ⟨m, hm⟩ := k1; exact DataW.trod_lt m _ _ _ hm
  obtain ⟨n1, e1, _, _, hw1⟩ := open_int Tryz.underlying3 (hval 1 3 v1 rfl rfl) h1
  subst e1
  have hI1 : I64 n1 := by have h := Bool.and_eq_true_iff.1 hw1; exact ⟨of_decide_eq_true h.1, of_decide_eq_true h.2⟩
  have k2 := h2
  have lt2 : ∀ x ∈ p2, x.block < W.heap.size := by obtain ⟨m, hm⟩ := k2; exact DataW.trod_lt m _ _ _ hm
  obtain ⟨cs2, e2, hz2⟩ := okWide_struct Tryz.underlying34 (hval 2 34 v2 rfl rfl)
  subst e2
  obtain ⟨l2⟩ := cs2
  obtain ⟨c2_0, c2_1, c2_2, c2_3, c2_4, c2_5, rfl⟩ := list6 (hz2.trans (show Tryz.prog.cellsOf 34 = 6 by kernel_rfl))
  obtain ⟨x2, w2⟩ : ∃ x, Has RPoint W [c2_0, c2_1, c2_2, c2_3, c2_4, c2_5] x := by obtain ⟨fuel, hf⟩ := h2; exact oPoint _ _ _ hf
  have k3 := h3
  have lt3 : ∀ x ∈ p3, x.block < W.heap.size := by obtain ⟨m, hm⟩ := k3; exact DataW.trod_lt m _ _ _ hm
  obtain ⟨cs3, e3, hz3⟩ := okWide_struct Tryz.underlying34 (hval 3 34 v3 rfl rfl)
  subst e3
  obtain ⟨l3⟩ := cs3
  obtain ⟨c3_0, c3_1, c3_2, c3_3, c3_4, c3_5, rfl⟩ := list6 (hz3.trans (show Tryz.prog.cellsOf 34 = 6 by kernel_rfl))
  obtain ⟨x3, w3⟩ : ∃ x, Has RPoint W [c3_0, c3_1, c3_2, c3_3, c3_4, c3_5] x := by obtain ⟨fuel, hf⟩ := h3; exact oPoint _ _ _ hf
  clear hA0 hval0
  refine (law_FnExactMoveClearance _ _ _ _ _ _ _ x0 n1 _ _ _ _ _ _ x2 _ _ _ _ _ _ x3 W w0 hI1 w2 w3).mono fun e W' ⟨v, he, hv, bel⟩ => ?_
  subst he hv
  exact ⟨_, rfl, _, _, _, [], _, [], hW', trodAll_mk1 (shut_bool Tryz.underlying4 _), (trodAll_cons_mk (Below.trod laidOut (by kernel_rfl) (of_decide_eq_true (by kernel_rfl)) k0 bel lt0) (trodAll_cons_mk (Below.trod laidOut (by kernel_rfl) (of_decide_eq_true (by kernel_rfl)) k1 bel lt1) (trodAll_cons_mk (Below.trod laidOut (by kernel_rfl) (of_decide_eq_true (by kernel_rfl)) k2 bel lt2) (trodAll_cons_mk (Below.trod laidOut (by kernel_rfl) (of_decide_eq_true (by kernel_rfl)) k3 bel lt3) trodAll_mk0)))), rfl, bel.frame _, fun h => by cases h⟩
set_option maxRecDepth 100000 in
set_option maxHeartbeats 4000000 in
theorem closed : joinedFacts Tryz.pinned.checked.prog 3 Tryz.f3 Rows.fnExactMoveClearanceSpec Rows.fnExactMoveClearanceRow = true := by
  unfold joinedFacts
  simp only [Bool.and_eq_true]
  and_intros
  all_goals as_aux_lemma => kernel_rfl
theorem inst : Tryz.f3.isInstance Tryz.pinned.checked.prog Rows.fnExactMoveClearanceRow.origin Rows.fnExactMoveClearanceRow.targs := of_decide_eq_true (by kernel_rfl)
theorem wrap : Tryz.f3.isWrapper Tryz.pinned.checked.prog Rows.fnExactMoveClearanceRow.wrapper Rows.fnExactMoveClearanceRow.mainSum := by unfold Func.isWrapper; first | (rw [if_pos (by decide +kernel)]; kernel_rfl) | (rw [if_neg (by decide +kernel)]; exact ⟨rfl, rfl⟩)
theorem named : Tryz.pinned.checked.prog.funcNamed Rows.fnExactMoveClearanceRow.func = some 3 := by kernel_rfl
theorem over : Rows.fnExactMoveClearanceRow.holds Tryz.pinned (OpenSpec.ofChange Rows.fnExactMoveClearanceSpec) :=
  OpenClaim.holds_of_wide 3 Tryz.f3 rfl rfl rfl rfl rfl rfl rfl ⟨rfl, rfl, rfl, rfl, rfl⟩ rfl rfl rfl rfl rfl named Tryz.func3 closed inst wrap
    (fun os started H enc _ => lifted os started H enc)
theorem proved : Rows.FnExactMoveClearanceSaid := over
#print axioms proved
end Go.Proofs.YtffdhjnbppagjaaGreat.pFnExactMoveClearance
