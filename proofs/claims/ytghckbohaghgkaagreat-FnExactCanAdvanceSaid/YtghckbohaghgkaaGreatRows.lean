/-
  No cell of these rows narrows 'for every input' (looked for: loops, veiled, ifaces, maps, wideKeys, modest, calm, conditions, laid).
  DERIVED. THE GIVEN ROWS OF THIS SEAT. 5 by the template 'for every input the law returns true; each argument reads behind the call as it read before'; 0 by the template 'total and deterministic' (their statements: YtghckbohaghgkaaGreatTotals.lean).
  GIVEN WITH THE SEED: the statements are not yours to turn. If you find one false, say at which input.
  Laid BY PROGRAM, IN A SANDBOX (cutbox-rows.mjs): the forced cells as the released guide's own fill.sh prints them over the translation 97ab07133a7431e2… (all of the seat's roots in one cut). By AI agents, Wed Nov 11 2026. No macro, syntax, notation, axiom, sorry.
-/
import Derived.Test.YtghckbohaghgkaaGreatChecked
import GoSem.Claim
import GoSem.ClaimJoined
import GoSem.ClaimMapViews
import Derived.JoinedTies
import Derived.KernelRfl
namespace Go.Proofs.YtghckbohaghgkaaGreat
/- THE CELL 'sum', in the pinned program and in every row, IS THE sha256 OF THE DUMP (.gsa) THAT YtghckbohaghgkaaGreatProg.lean LOADS. Nothing in Lean hashes anything: it is a label: what it is worth is what the hold of that sum in a sandbox is worth. -/
noncomputable def Tryz.pinned : Pinned := { name := "ytghckbohaghgkaagreat", sum := "97ab07133a7431e2fae65e930d3899b79c256f3ebcc2a98c651015e9c6711c7b", checked := Tryz.checked }
namespace Rows
def none {H : Type} : Left H := { results := [], args := [] }

/-- 'laws.FnExactStandsTouch': WHATEVER THE INPUT: true; the input reads as it did. -/
def fnExactStandsTouchSpec : ChangeSpec := { name := "fnExactStandsTouch", fn := fun _ => fun
  | [d1, d2, d3, d4] => { results := [.lit (.bool true)], args := [d1, d2, d3, d4] }
  | _ => none }
def fnExactStandsTouchRow : OpenClaim := { program := "ytghckbohaghgkaagreat", sum := "97ab07133a7431e2fae65e930d3899b79c256f3ebcc2a98c651015e9c6711c7b", func := "loop.example/g00811/laws.FnExactStandsTouch", spec := "fnExactStandsTouch", unfollowed := true, recurses := true, plainKeys := false, apart := false }
def FnExactStandsTouchSaid : Prop := fnExactStandsTouchRow.holds Tryz.pinned (OpenSpec.ofChange fnExactStandsTouchSpec)

/-- ITS FALSE NEIGHBOUR: 'it returns false'. Refute it at one input. -/
def fnExactStandsTouchWrong : ChangeSpec := { name := "fnExactStandsTouch", fn := fun _ => fun
  | [d1, d2, d3, d4] => { results := [.lit (.bool false)], args := [d1, d2, d3, d4] }
  | _ => none }
def FnExactStandsTouchWrongFalsely : Prop := fnExactStandsTouchRow.holds Tryz.pinned (OpenSpec.ofChange fnExactStandsTouchWrong)

/-- 'laws.FnExactAreTours': WHATEVER THE INPUT: true; the input reads as it did. -/
def fnExactAreToursSpec : ChangeSpec := { name := "fnExactAreTours", fn := fun _ => fun
  | [d] => { results := [.lit (.bool true)], args := [d] }
  | _ => none }
def fnExactAreToursRow : OpenClaim := { program := "ytghckbohaghgkaagreat", sum := "97ab07133a7431e2fae65e930d3899b79c256f3ebcc2a98c651015e9c6711c7b", func := "loop.example/g00811/laws.FnExactAreTours", spec := "fnExactAreTours", unfollowed := true, recurses := true, plainKeys := false, apart := false }
def FnExactAreToursSaid : Prop := fnExactAreToursRow.holds Tryz.pinned (OpenSpec.ofChange fnExactAreToursSpec)

/-- ITS FALSE NEIGHBOUR: 'it returns false'. Refute it at one input. -/
def fnExactAreToursWrong : ChangeSpec := { name := "fnExactAreTours", fn := fun _ => fun
  | [d] => { results := [.lit (.bool false)], args := [d] }
  | _ => none }
def FnExactAreToursWrongFalsely : Prop := fnExactAreToursRow.holds Tryz.pinned (OpenSpec.ofChange fnExactAreToursWrong)

/-- 'laws.FnExactStepTouches': WHATEVER THE INPUT: true; the input reads as it did. -/
def fnExactStepTouchesSpec : ChangeSpec := { name := "fnExactStepTouches", fn := fun _ => fun
  | [d1, d2, d3, d4] => { results := [.lit (.bool true)], args := [d1, d2, d3, d4] }
  | _ => none }
def fnExactStepTouchesRow : OpenClaim := { program := "ytghckbohaghgkaagreat", sum := "97ab07133a7431e2fae65e930d3899b79c256f3ebcc2a98c651015e9c6711c7b", func := "loop.example/g00811/laws.FnExactStepTouches", spec := "fnExactStepTouches", unfollowed := true, recurses := true, plainKeys := false, apart := false }
def FnExactStepTouchesSaid : Prop := fnExactStepTouchesRow.holds Tryz.pinned (OpenSpec.ofChange fnExactStepTouchesSpec)

/-- ITS FALSE NEIGHBOUR: 'it returns false'. Refute it at one input. -/
def fnExactStepTouchesWrong : ChangeSpec := { name := "fnExactStepTouches", fn := fun _ => fun
  | [d1, d2, d3, d4] => { results := [.lit (.bool false)], args := [d1, d2, d3, d4] }
  | _ => none }
def FnExactStepTouchesWrongFalsely : Prop := fnExactStepTouchesRow.holds Tryz.pinned (OpenSpec.ofChange fnExactStepTouchesWrong)

/-- 'laws.FnExactTouchTable': WHATEVER THE INPUT: true; the input reads as it did. -/
def fnExactTouchTableSpec : ChangeSpec := { name := "fnExactTouchTable", fn := fun _ => fun
  | [d1, d2] => { results := [.lit (.bool true)], args := [d1, d2] }
  | _ => none }
def fnExactTouchTableRow : OpenClaim := { program := "ytghckbohaghgkaagreat", sum := "97ab07133a7431e2fae65e930d3899b79c256f3ebcc2a98c651015e9c6711c7b", func := "loop.example/g00811/laws.FnExactTouchTable", spec := "fnExactTouchTable", unfollowed := true, recurses := true, plainKeys := false, apart := false }
def FnExactTouchTableSaid : Prop := fnExactTouchTableRow.holds Tryz.pinned (OpenSpec.ofChange fnExactTouchTableSpec)

/-- ITS FALSE NEIGHBOUR: 'it returns false'. Refute it at one input. -/
def fnExactTouchTableWrong : ChangeSpec := { name := "fnExactTouchTable", fn := fun _ => fun
  | [d1, d2] => { results := [.lit (.bool false)], args := [d1, d2] }
  | _ => none }
def FnExactTouchTableWrongFalsely : Prop := fnExactTouchTableRow.holds Tryz.pinned (OpenSpec.ofChange fnExactTouchTableWrong)

/-- 'laws.FnExactCanAdvance': WHATEVER THE INPUT: true; the input reads as it did. -/
def fnExactCanAdvanceSpec : ChangeSpec := { name := "fnExactCanAdvance", fn := fun _ => fun
  | [d1, d2, d3] => { results := [.lit (.bool true)], args := [d1, d2, d3] }
  | _ => none }
def fnExactCanAdvanceRow : OpenClaim := { program := "ytghckbohaghgkaagreat", sum := "97ab07133a7431e2fae65e930d3899b79c256f3ebcc2a98c651015e9c6711c7b", func := "loop.example/g00811/laws.FnExactCanAdvance", spec := "fnExactCanAdvance", unfollowed := true, recurses := true, plainKeys := false, apart := false }
def FnExactCanAdvanceSaid : Prop := fnExactCanAdvanceRow.holds Tryz.pinned (OpenSpec.ofChange fnExactCanAdvanceSpec)

/-- ITS FALSE NEIGHBOUR: 'it returns false'. Refute it at one input. -/
def fnExactCanAdvanceWrong : ChangeSpec := { name := "fnExactCanAdvance", fn := fun _ => fun
  | [d1, d2, d3] => { results := [.lit (.bool false)], args := [d1, d2, d3] }
  | _ => none }
def FnExactCanAdvanceWrongFalsely : Prop := fnExactCanAdvanceRow.holds Tryz.pinned (OpenSpec.ofChange fnExactCanAdvanceWrong)

/- THE SECOND FORM. 'bulk': how many values and letters a reading holds, each counted each time it is reached (what is shared counts as often as it is met; a slice's spare places count too). A statement '..UptoSaid' is the law's where the arguments, and the package variables that the reading takes, are together of bulk at most 1048576: NARROWER than '..Said'. Prove '..Said' where nothing that the law and all that it calls make is longer than what came in: it says more and counts as full. Else prove '..UptoSaid'. A law counts once. -/
mutual
def uptoBulk {H : Type} : DataW H → Nat
  | .lit (.string bytes) => bytes.length + 1
  | .lit _ => 1
  | .nil => 1
  | .ptr d => uptoBulk d + 1
  | .slice elems spare => uptoBulkAll elems + uptoBulkAll spare + 1
  | .agg parts => uptoBulkAll parts + 1
  | .iface _ d => uptoBulk d + 1
  | .map entries => uptoBulkEntries entries + 1
  | .held _ => 1
def uptoBulkAll {H : Type} : List (DataW H) → Nat
  | [] => 0
  | d :: r => uptoBulk d + uptoBulkAll r
def uptoBulkEntries {H : Type} : List (Lit × DataW H) → Nat
  | [] => 0
  | x :: r => uptoBulkEntry x + uptoBulkEntries r
def uptoBulkEntry {H : Type} : Lit × DataW H → Nat
  | (.string bytes, d) => bytes.length + uptoBulk d + 1
  | (_, d) => uptoBulk d + 1
 end
def uptoSmall : (H : Type) → List (DataW H) → Bool := fun _ ds => decide (uptoBulkAll ds ≤ 1048576)
def OpenSpec.upto (s : _root_.Go.ChangeSpec) : _root_.Go.OpenSpec := { _root_.Go.OpenSpec.ofChange s with cond := some uptoSmall }

/-- 'laws.FnExactStandsTouch', WHERE WHAT IT READS IS OF BULK AT MOST 1048576: true; the input reads as it did. -/
def fnExactStandsTouchUptoRow : OpenClaim := { program := "ytghckbohaghgkaagreat", sum := "97ab07133a7431e2fae65e930d3899b79c256f3ebcc2a98c651015e9c6711c7b", func := "loop.example/g00811/laws.FnExactStandsTouch", spec := "fnExactStandsTouch", unfollowed := true, recurses := true, plainKeys := false, apart := false, narrowed := true }
def FnExactStandsTouchUptoSaid : Prop := fnExactStandsTouchUptoRow.holds Tryz.pinned (OpenSpec.upto fnExactStandsTouchSpec)

/-- 'laws.FnExactAreTours', WHERE WHAT IT READS IS OF BULK AT MOST 1048576: true; the input reads as it did. -/
def fnExactAreToursUptoRow : OpenClaim := { program := "ytghckbohaghgkaagreat", sum := "97ab07133a7431e2fae65e930d3899b79c256f3ebcc2a98c651015e9c6711c7b", func := "loop.example/g00811/laws.FnExactAreTours", spec := "fnExactAreTours", unfollowed := true, recurses := true, plainKeys := false, apart := false, narrowed := true }
def FnExactAreToursUptoSaid : Prop := fnExactAreToursUptoRow.holds Tryz.pinned (OpenSpec.upto fnExactAreToursSpec)

/-- 'laws.FnExactStepTouches', WHERE WHAT IT READS IS OF BULK AT MOST 1048576: true; the input reads as it did. -/
def fnExactStepTouchesUptoRow : OpenClaim := { program := "ytghckbohaghgkaagreat", sum := "97ab07133a7431e2fae65e930d3899b79c256f3ebcc2a98c651015e9c6711c7b", func := "loop.example/g00811/laws.FnExactStepTouches", spec := "fnExactStepTouches", unfollowed := true, recurses := true, plainKeys := false, apart := false, narrowed := true }
def FnExactStepTouchesUptoSaid : Prop := fnExactStepTouchesUptoRow.holds Tryz.pinned (OpenSpec.upto fnExactStepTouchesSpec)

/-- 'laws.FnExactTouchTable', WHERE WHAT IT READS IS OF BULK AT MOST 1048576: true; the input reads as it did. -/
def fnExactTouchTableUptoRow : OpenClaim := { program := "ytghckbohaghgkaagreat", sum := "97ab07133a7431e2fae65e930d3899b79c256f3ebcc2a98c651015e9c6711c7b", func := "loop.example/g00811/laws.FnExactTouchTable", spec := "fnExactTouchTable", unfollowed := true, recurses := true, plainKeys := false, apart := false, narrowed := true }
def FnExactTouchTableUptoSaid : Prop := fnExactTouchTableUptoRow.holds Tryz.pinned (OpenSpec.upto fnExactTouchTableSpec)

/-- 'laws.FnExactCanAdvance', WHERE WHAT IT READS IS OF BULK AT MOST 1048576: true; the input reads as it did. -/
def fnExactCanAdvanceUptoRow : OpenClaim := { program := "ytghckbohaghgkaagreat", sum := "97ab07133a7431e2fae65e930d3899b79c256f3ebcc2a98c651015e9c6711c7b", func := "loop.example/g00811/laws.FnExactCanAdvance", spec := "fnExactCanAdvance", unfollowed := true, recurses := true, plainKeys := false, apart := false, narrowed := true }
def FnExactCanAdvanceUptoSaid : Prop := fnExactCanAdvanceUptoRow.holds Tryz.pinned (OpenSpec.upto fnExactCanAdvanceSpec)

end Rows
end Go.Proofs.YtghckbohaghgkaaGreat
