/-
  FnStops returns true.
-/
import Derived.OpenShut
import Derived.ShutString
import Derived.ChangeOld
import Derived.Test.YtkaclgdhlpphhaaGreatKSl7
set_option linter.all false
namespace Go.Proofs.YtkaclgdhlpphhaaGreat.pFnStops
open Go.ChangeShapes Go.WideShapes Go.ChangeAt Go.RowKit
theorem own:ownKnob Tryz.prog.godebug=none:=by kernel_rfl
theorem laidOut:laidOutB Tryz.prog=true:=by kernel_rfl
theorem law (v:Value) (x:List Int) (w:World) (hx:Has (Rp.slice DW.RpU8 Nat.one_pos) w [v] x):Calls Tryz.prog 6 #[v] w (Post fun r w'=>r=.bool true∧Below w.heap.size w w') :=
 (DW.lawStops_fn x).bool (hg:=DW.Gw.none ai) (vs:=[v]) ⟨DW.Arg.sl hx,trivial⟩
set_option maxRecDepth 100000 in
theorem lifted (os:Os) (started:os.Started) (H:Type) (enc:TypeId × Value → H) :
  ReturnsInHanded {} Tryz.checked os 6 .any (Rows.fnStopsSpec.pre6 enc Tryz.prog Tryz.f6 Rows.fnStopsRow.domain false) (Rows.fnStopsSpec.post enc Tryz.prog Tryz.f6 false true false false):=by
 refine returnsInHanded_of_change (C:=Tryz.checked) own started ai Tryz.func6
  (ChangeSpec.witness6 (enc:=enc) (C:=Tryz.checked) false ⟨#[],#[.slice none 0 0],[]⟩ 8 ai ai ai ai) ?_
 intro W base args ds gs before hval0 hW hcnd _
 have hval:∀ (j:Nat) t v,Tryz.f6.params[j]? = some t → args[j]? = some v → Value.okWide Tryz.prog W .any base t v:=hval0
 have hW':=hW
 obtain⟨p,q,hA0,hV,rfl,hfz,hnd⟩:=hW
 have hA:DataW.TrodAll enc Tryz.prog W 0 (fun _=>true) true Tryz.f6.params.toList args.toList ds p:=hA0
 rw[Tryz.params6] at hA hval
 obtain⟨v0,vs0,d0,ds0,p0,q0,hargs,rfl,rfl,h0,r0⟩:=trodAll_cons hA
 obtain⟨rfl,rfl,rfl⟩:=trodAll_nil r0
 obtain rfl:args=#[v0]:=by cases args; simp_all
 obtain⟨rfl,rfl⟩:=trodVars_none hV
 have k0:=h0
 have lt0:∀ x ∈ p0,x.block < W.heap.size:=by obtain⟨m,hm⟩:=k0; exact DataW.trod_lt m _ _ _ hm
 obtain⟨b0,len0,cap0,e0⟩:=okWide_slice Tryz.underlying22 (hval 0 22 v0 rfl rfl)
 subst e0
 obtain⟨x0,w0⟩:∃ x,Has (Rp.slice DW.RpU8 Nat.one_pos) W [.slice b0 len0 cap0] x:=by obtain⟨fuel,hf⟩:=h0; exact oU8S _ _ _ hf
 clear hA0 hval0
 refine (law _ x0 W w0).mono fun e W' ⟨v,he,hv,bel⟩=>?_
 subst he hv
 exact⟨_,rfl,_,_,_,[],_,[],hW',trodAll_mk1 (shut_bool Tryz.underlying4 _),trodAll_cons_mk (Below.trod laidOut ai (of_decide_eq_true ai) k0 bel lt0) trodAll_mk0,rfl,bel.frame _,fun h=>by cases h⟩
set_option maxRecDepth 100000 in
set_option maxHeartbeats 4000000 in
theorem closed:joinedFacts Tryz.pinned.checked.prog 6 Tryz.f6 Rows.fnStopsSpec Rows.fnStopsRow=true:=by
 unfold joinedFacts
 simp only [Bool.and_eq_true]
 and_intros
 all_goals as_aux_lemma=>kernel_rfl
theorem inst:Tryz.f6.isInstance Tryz.pinned.checked.prog Rows.fnStopsRow.origin Rows.fnStopsRow.targs:=of_decide_eq_true ai
theorem wrap:Tryz.f6.isWrapper Tryz.pinned.checked.prog Rows.fnStopsRow.wrapper Rows.fnStopsRow.mainSum:=by unfold Func.isWrapper; first|(rw[if_pos (by decide +kernel)]; kernel_rfl)|(rw[if_neg (by decide +kernel)]; exact⟨rfl,rfl⟩)
theorem named:Tryz.pinned.checked.prog.funcNamed Rows.fnStopsRow.func=some 6:=by kernel_rfl
theorem over:Rows.fnStopsRow.holds Tryz.pinned (OpenSpec.ofChange Rows.fnStopsSpec) :=
 OpenClaim.holds_of_wide 6 Tryz.f6 rfl rfl rfl rfl rfl rfl rfl ⟨rfl,rfl,rfl,rfl,rfl⟩ rfl rfl rfl rfl rfl named Tryz.func6 closed inst wrap
  (fun os started H enc _=>lifted os started H enc)
theorem proved:Rows.FnStopsSaid:=over
#print axioms proved
end Go.Proofs.YtkaclgdhlpphhaaGreat.pFnStops
