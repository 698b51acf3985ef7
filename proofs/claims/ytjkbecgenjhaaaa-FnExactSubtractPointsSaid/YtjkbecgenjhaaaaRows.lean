/-
  No cell of these rows narrows 'for every input' (looked for: loops, veiled, ifaces, maps, wideKeys, modest, calm, conditions, laid).
  DERIVED. THE GIVEN ROWS OF THIS SEAT. 8 by the template 'for every input the law returns true; each argument reads behind the call as it read before'; 0 by the template 'total and deterministic' (their statements: YtjkbecgenjhaaaaTotals.lean).
  GIVEN WITH THE SEED: the statements are not yours to turn. If you find one false, say at which input.
  Laid BY PROGRAM, IN A SANDBOX (cutbox-rows.mjs): the forced cells as the released guide's own fill.sh prints them over the translation 21e893d87e6fab91… (all of the seat's roots in one cut). By AI agents, Wed Nov 11 2026. No macro, syntax, notation, axiom, sorry.
-/
import Derived.Test.YtjkbecgenjhaaaaChecked
import GoSem.Claim
import GoSem.ClaimJoined
import GoSem.ClaimMapViews
import Derived.JoinedTies
import Derived.KernelRfl
namespace Go.Proofs.Ytjkbecgenjhaaaa
/- THE CELL 'sum', in the pinned program and in every row, IS THE sha256 OF THE DUMP (.gsa) THAT YtjkbecgenjhaaaaProg.lean LOADS. Nothing in Lean hashes anything: it is a label: what it is worth is what the hold of that sum in a sandbox is worth. -/
noncomputable def Try.pinned : Pinned := { name := "ytjkbecgenjhaaaa", sum := "21e893d87e6fab91e1860d6b90673ff0be591a8753f0412da8db50340f0780af", checked := Try.checked }
namespace Rows
def none {H : Type} : Left H := { results := [], args := [] }

/-- 'laws.FnExactCountMoves': WHATEVER THE INPUT: true; the input reads as it did. -/
def fnExactCountMovesSpec : ChangeSpec := { name := "fnExactCountMoves", fn := fun _ => fun
  | [d] => { results := [.lit (.bool true)], args := [d] }
  | _ => none }
def fnExactCountMovesRow : OpenClaim := { program := "ytjkbecgenjhaaaa", sum := "21e893d87e6fab91e1860d6b90673ff0be591a8753f0412da8db50340f0780af", func := "loop.example/g00811/laws.FnExactCountMoves", spec := "fnExactCountMoves", apart := false }
def FnExactCountMovesSaid : Prop := fnExactCountMovesRow.holds Try.pinned (OpenSpec.ofChange fnExactCountMovesSpec)

/-- ITS FALSE NEIGHBOUR: 'it returns false'. Refute it at one input. -/
def fnExactCountMovesWrong : ChangeSpec := { name := "fnExactCountMoves", fn := fun _ => fun
  | [d] => { results := [.lit (.bool false)], args := [d] }
  | _ => none }
def FnExactCountMovesWrongFalsely : Prop := fnExactCountMovesRow.holds Try.pinned (OpenSpec.ofChange fnExactCountMovesWrong)

/-- 'laws.FnExactSameSteps': WHATEVER THE INPUT: true; the input reads as it did. -/
def fnExactSameStepsSpec : ChangeSpec := { name := "fnExactSameSteps", fn := fun _ => fun
  | [d1, d2] => { results := [.lit (.bool true)], args := [d1, d2] }
  | _ => none }
def fnExactSameStepsRow : OpenClaim := { program := "ytjkbecgenjhaaaa", sum := "21e893d87e6fab91e1860d6b90673ff0be591a8753f0412da8db50340f0780af", func := "loop.example/g00811/laws.FnExactSameSteps", spec := "fnExactSameSteps", unfollowed := true, recurses := true, apart := false }
def FnExactSameStepsSaid : Prop := fnExactSameStepsRow.holds Try.pinned (OpenSpec.ofChange fnExactSameStepsSpec)

/-- ITS FALSE NEIGHBOUR: 'it returns false'. Refute it at one input. -/
def fnExactSameStepsWrong : ChangeSpec := { name := "fnExactSameSteps", fn := fun _ => fun
  | [d1, d2] => { results := [.lit (.bool false)], args := [d1, d2] }
  | _ => none }
def FnExactSameStepsWrongFalsely : Prop := fnExactSameStepsRow.holds Try.pinned (OpenSpec.ofChange fnExactSameStepsWrong)

/-- 'laws.FnExactSpeedLimits': WHATEVER THE INPUT: true; the input reads as it did. -/
def fnExactSpeedLimitsSpec : ChangeSpec := { name := "fnExactSpeedLimits", fn := fun _ => fun
  | [d1, d2] => { results := [.lit (.bool true)], args := [d1, d2] }
  | _ => none }
def fnExactSpeedLimitsRow : OpenClaim := { program := "ytjkbecgenjhaaaa", sum := "21e893d87e6fab91e1860d6b90673ff0be591a8753f0412da8db50340f0780af", func := "loop.example/g00811/laws.FnExactSpeedLimits", spec := "fnExactSpeedLimits", unfollowed := true, recurses := true, apart := false }
def FnExactSpeedLimitsSaid : Prop := fnExactSpeedLimitsRow.holds Try.pinned (OpenSpec.ofChange fnExactSpeedLimitsSpec)

/-- ITS FALSE NEIGHBOUR: 'it returns false'. Refute it at one input. -/
def fnExactSpeedLimitsWrong : ChangeSpec := { name := "fnExactSpeedLimits", fn := fun _ => fun
  | [d1, d2] => { results := [.lit (.bool false)], args := [d1, d2] }
  | _ => none }
def FnExactSpeedLimitsWrongFalsely : Prop := fnExactSpeedLimitsRow.holds Try.pinned (OpenSpec.ofChange fnExactSpeedLimitsWrong)

/-- 'laws.FnExactDropIdle': WHATEVER THE INPUT: true; the input reads as it did. -/
def fnExactDropIdleSpec : ChangeSpec := { name := "fnExactDropIdle", fn := fun _ => fun
  | [d1, d2] => { results := [.lit (.bool true)], args := [d1, d2] }
  | _ => none }
def fnExactDropIdleRow : OpenClaim := { program := "ytjkbecgenjhaaaa", sum := "21e893d87e6fab91e1860d6b90673ff0be591a8753f0412da8db50340f0780af", func := "loop.example/g00811/laws.FnExactDropIdle", spec := "fnExactDropIdle", apart := false }
def FnExactDropIdleSaid : Prop := fnExactDropIdleRow.holds Try.pinned (OpenSpec.ofChange fnExactDropIdleSpec)

/-- ITS FALSE NEIGHBOUR: 'it returns false'. Refute it at one input. -/
def fnExactDropIdleWrong : ChangeSpec := { name := "fnExactDropIdle", fn := fun _ => fun
  | [d1, d2] => { results := [.lit (.bool false)], args := [d1, d2] }
  | _ => none }
def FnExactDropIdleWrongFalsely : Prop := fnExactDropIdleRow.holds Try.pinned (OpenSpec.ofChange fnExactDropIdleWrong)

/-- 'laws.FnExactIsFasterEverywhere': WHATEVER THE INPUT: true; the input reads as it did. -/
def fnExactIsFasterEverywhereSpec : ChangeSpec := { name := "fnExactIsFasterEverywhere", fn := fun _ => fun
  | [d1, d2] => { results := [.lit (.bool true)], args := [d1, d2] }
  | _ => none }
def fnExactIsFasterEverywhereRow : OpenClaim := { program := "ytjkbecgenjhaaaa", sum := "21e893d87e6fab91e1860d6b90673ff0be591a8753f0412da8db50340f0780af", func := "loop.example/g00811/laws.FnExactIsFasterEverywhere", spec := "fnExactIsFasterEverywhere", unfollowed := true, recurses := true, apart := false }
def FnExactIsFasterEverywhereSaid : Prop := fnExactIsFasterEverywhereRow.holds Try.pinned (OpenSpec.ofChange fnExactIsFasterEverywhereSpec)

/-- ITS FALSE NEIGHBOUR: 'it returns false'. Refute it at one input. -/
def fnExactIsFasterEverywhereWrong : ChangeSpec := { name := "fnExactIsFasterEverywhere", fn := fun _ => fun
  | [d1, d2] => { results := [.lit (.bool false)], args := [d1, d2] }
  | _ => none }
def FnExactIsFasterEverywhereWrongFalsely : Prop := fnExactIsFasterEverywhereRow.holds Try.pinned (OpenSpec.ofChange fnExactIsFasterEverywhereWrong)

/-- 'laws.FnExactPeakSquare': WHATEVER THE INPUT: true; the input reads as it did. -/
def fnExactPeakSquareSpec : ChangeSpec := { name := "fnExactPeakSquare", fn := fun _ => fun
  | [d] => { results := [.lit (.bool true)], args := [d] }
  | _ => none }
def fnExactPeakSquareRow : OpenClaim := { program := "ytjkbecgenjhaaaa", sum := "21e893d87e6fab91e1860d6b90673ff0be591a8753f0412da8db50340f0780af", func := "loop.example/g00811/laws.FnExactPeakSquare", spec := "fnExactPeakSquare", unfollowed := true, recurses := true, apart := false }
def FnExactPeakSquareSaid : Prop := fnExactPeakSquareRow.holds Try.pinned (OpenSpec.ofChange fnExactPeakSquareSpec)

/-- ITS FALSE NEIGHBOUR: 'it returns false'. Refute it at one input. -/
def fnExactPeakSquareWrong : ChangeSpec := { name := "fnExactPeakSquare", fn := fun _ => fun
  | [d] => { results := [.lit (.bool false)], args := [d] }
  | _ => none }
def FnExactPeakSquareWrongFalsely : Prop := fnExactPeakSquareRow.holds Try.pinned (OpenSpec.ofChange fnExactPeakSquareWrong)

/-- 'laws.FnExactSubtractPoints': WHATEVER THE INPUT: true; the input reads as it did. -/
def fnExactSubtractPointsSpec : ChangeSpec := { name := "fnExactSubtractPoints", fn := fun _ => fun
  | [d1, d2] => { results := [.lit (.bool true)], args := [d1, d2] }
  | _ => none }
def fnExactSubtractPointsRow : OpenClaim := { program := "ytjkbecgenjhaaaa", sum := "21e893d87e6fab91e1860d6b90673ff0be591a8753f0412da8db50340f0780af", func := "loop.example/g00811/laws.FnExactSubtractPoints", spec := "fnExactSubtractPoints", unfollowed := true, recurses := true, apart := false }
def FnExactSubtractPointsSaid : Prop := fnExactSubtractPointsRow.holds Try.pinned (OpenSpec.ofChange fnExactSubtractPointsSpec)

/-- ITS FALSE NEIGHBOUR: 'it returns false'. Refute it at one input. -/
def fnExactSubtractPointsWrong : ChangeSpec := { name := "fnExactSubtractPoints", fn := fun _ => fun
  | [d1, d2] => { results := [.lit (.bool false)], args := [d1, d2] }
  | _ => none }
def FnExactSubtractPointsWrongFalsely : Prop := fnExactSubtractPointsRow.holds Try.pinned (OpenSpec.ofChange fnExactSubtractPointsWrong)

/-- 'laws.FnExactMoveLength': WHATEVER THE INPUT: true; the input reads as it did. -/
def fnExactMoveLengthSpec : ChangeSpec := { name := "fnExactMoveLength", fn := fun _ => fun
  | [d1, d2] => { results := [.lit (.bool true)], args := [d1, d2] }
  | _ => none }
def fnExactMoveLengthRow : OpenClaim := { program := "ytjkbecgenjhaaaa", sum := "21e893d87e6fab91e1860d6b90673ff0be591a8753f0412da8db50340f0780af", func := "loop.example/g00811/laws.FnExactMoveLength", spec := "fnExactMoveLength", unfollowed := true, recurses := true, apart := false }
def FnExactMoveLengthSaid : Prop := fnExactMoveLengthRow.holds Try.pinned (OpenSpec.ofChange fnExactMoveLengthSpec)

/-- ITS FALSE NEIGHBOUR: 'it returns false'. Refute it at one input. -/
def fnExactMoveLengthWrong : ChangeSpec := { name := "fnExactMoveLength", fn := fun _ => fun
  | [d1, d2] => { results := [.lit (.bool false)], args := [d1, d2] }
  | _ => none }
def FnExactMoveLengthWrongFalsely : Prop := fnExactMoveLengthRow.holds Try.pinned (OpenSpec.ofChange fnExactMoveLengthWrong)

/- THE SECOND FORM. 'bulk': how many values and letters a reading holds, each counted each time it is reached (what is shared counts as often as it is met; a slice's spare places count too). A statement '..UptoSaid' is the law's where the arguments, and the package variables that the reading takes, are together of bulk at most 1048576: NARROWER than '..Said'. Prove '..Said' where nothing that the law and all that it calls make is longer than what came in: it says more and counts as full. Else prove '..UptoSaid'. A law counts once. -/
mutual
def uptoBulk {H : Type} : DataW H → Nat
  | .lit (.string bytes) => bytes.length + 1
  | .lit _ => 1
  | .nil => 1
  | .ptr d => uptoBulk d + 1
  | .slice elems spare => uptoBulkAll elems + uptoBulkAll spare + 1
  | .agg parts => uptoBulkAll parts + 1
  | .iface _ d => uptoBulk d + 1
  | .map entries => uptoBulkEntries entries + 1
  | .held _ => 1
def uptoBulkAll {H : Type} : List (DataW H) → Nat
  | [] => 0
  | d :: r => uptoBulk d + uptoBulkAll r
def uptoBulkEntries {H : Type} : List (Lit × DataW H) → Nat
  | [] => 0
  | x :: r => uptoBulkEntry x + uptoBulkEntries r
def uptoBulkEntry {H : Type} : Lit × DataW H → Nat
  | (.string bytes, d) => bytes.length + uptoBulk d + 1
  | (_, d) => uptoBulk d + 1
 end
def uptoSmall : (H : Type) → List (DataW H) → Bool := fun _ ds => decide (uptoBulkAll ds ≤ 1048576)
def OpenSpec.upto (s : _root_.Go.ChangeSpec) : _root_.Go.OpenSpec := { _root_.Go.OpenSpec.ofChange s with cond := some uptoSmall }

/-- 'laws.FnExactCountMoves', WHERE WHAT IT READS IS OF BULK AT MOST 1048576: true; the input reads as it did. -/
def fnExactCountMovesUptoRow : OpenClaim := { program := "ytjkbecgenjhaaaa", sum := "21e893d87e6fab91e1860d6b90673ff0be591a8753f0412da8db50340f0780af", func := "loop.example/g00811/laws.FnExactCountMoves", spec := "fnExactCountMoves", apart := false, narrowed := true }
def FnExactCountMovesUptoSaid : Prop := fnExactCountMovesUptoRow.holds Try.pinned (OpenSpec.upto fnExactCountMovesSpec)

/-- 'laws.FnExactSameSteps', WHERE WHAT IT READS IS OF BULK AT MOST 1048576: true; the input reads as it did. -/
def fnExactSameStepsUptoRow : OpenClaim := { program := "ytjkbecgenjhaaaa", sum := "21e893d87e6fab91e1860d6b90673ff0be591a8753f0412da8db50340f0780af", func := "loop.example/g00811/laws.FnExactSameSteps", spec := "fnExactSameSteps", unfollowed := true, recurses := true, apart := false, narrowed := true }
def FnExactSameStepsUptoSaid : Prop := fnExactSameStepsUptoRow.holds Try.pinned (OpenSpec.upto fnExactSameStepsSpec)

/-- 'laws.FnExactSpeedLimits', WHERE WHAT IT READS IS OF BULK AT MOST 1048576: true; the input reads as it did. -/
def fnExactSpeedLimitsUptoRow : OpenClaim := { program := "ytjkbecgenjhaaaa", sum := "21e893d87e6fab91e1860d6b90673ff0be591a8753f0412da8db50340f0780af", func := "loop.example/g00811/laws.FnExactSpeedLimits", spec := "fnExactSpeedLimits", unfollowed := true, recurses := true, apart := false, narrowed := true }
def FnExactSpeedLimitsUptoSaid : Prop := fnExactSpeedLimitsUptoRow.holds Try.pinned (OpenSpec.upto fnExactSpeedLimitsSpec)

/-- 'laws.FnExactDropIdle', WHERE WHAT IT READS IS OF BULK AT MOST 1048576: true; the input reads as it did. -/
def fnExactDropIdleUptoRow : OpenClaim := { program := "ytjkbecgenjhaaaa", sum := "21e893d87e6fab91e1860d6b90673ff0be591a8753f0412da8db50340f0780af", func := "loop.example/g00811/laws.FnExactDropIdle", spec := "fnExactDropIdle", apart := false, narrowed := true }
def FnExactDropIdleUptoSaid : Prop := fnExactDropIdleUptoRow.holds Try.pinned (OpenSpec.upto fnExactDropIdleSpec)

/-- 'laws.FnExactIsFasterEverywhere', WHERE WHAT IT READS IS OF BULK AT MOST 1048576: true; the input reads as it did. -/
def fnExactIsFasterEverywhereUptoRow : OpenClaim := { program := "ytjkbecgenjhaaaa", sum := "21e893d87e6fab91e1860d6b90673ff0be591a8753f0412da8db50340f0780af", func := "loop.example/g00811/laws.FnExactIsFasterEverywhere", spec := "fnExactIsFasterEverywhere", unfollowed := true, recurses := true, apart := false, narrowed := true }
def FnExactIsFasterEverywhereUptoSaid : Prop := fnExactIsFasterEverywhereUptoRow.holds Try.pinned (OpenSpec.upto fnExactIsFasterEverywhereSpec)

/-- 'laws.FnExactPeakSquare', WHERE WHAT IT READS IS OF BULK AT MOST 1048576: true; the input reads as it did. -/
def fnExactPeakSquareUptoRow : OpenClaim := { program := "ytjkbecgenjhaaaa", sum := "21e893d87e6fab91e1860d6b90673ff0be591a8753f0412da8db50340f0780af", func := "loop.example/g00811/laws.FnExactPeakSquare", spec := "fnExactPeakSquare", unfollowed := true, recurses := true, apart := false, narrowed := true }
def FnExactPeakSquareUptoSaid : Prop := fnExactPeakSquareUptoRow.holds Try.pinned (OpenSpec.upto fnExactPeakSquareSpec)

/-- 'laws.FnExactSubtractPoints', WHERE WHAT IT READS IS OF BULK AT MOST 1048576: true; the input reads as it did. -/
def fnExactSubtractPointsUptoRow : OpenClaim := { program := "ytjkbecgenjhaaaa", sum := "21e893d87e6fab91e1860d6b90673ff0be591a8753f0412da8db50340f0780af", func := "loop.example/g00811/laws.FnExactSubtractPoints", spec := "fnExactSubtractPoints", unfollowed := true, recurses := true, apart := false, narrowed := true }
def FnExactSubtractPointsUptoSaid : Prop := fnExactSubtractPointsUptoRow.holds Try.pinned (OpenSpec.upto fnExactSubtractPointsSpec)

/-- 'laws.FnExactMoveLength', WHERE WHAT IT READS IS OF BULK AT MOST 1048576: true; the input reads as it did. -/
def fnExactMoveLengthUptoRow : OpenClaim := { program := "ytjkbecgenjhaaaa", sum := "21e893d87e6fab91e1860d6b90673ff0be591a8753f0412da8db50340f0780af", func := "loop.example/g00811/laws.FnExactMoveLength", spec := "fnExactMoveLength", unfollowed := true, recurses := true, apart := false, narrowed := true }
def FnExactMoveLengthUptoSaid : Prop := fnExactMoveLengthUptoRow.holds Try.pinned (OpenSpec.upto fnExactMoveLengthSpec)

end Rows
end Go.Proofs.Ytjkbecgenjhaaaa
