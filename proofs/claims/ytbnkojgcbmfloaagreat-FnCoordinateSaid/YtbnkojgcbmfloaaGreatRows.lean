/-
  No cell of these rows narrows 'for every input' (looked for: loops, veiled, ifaces, maps, wideKeys, modest, calm, conditions, laid).
  DERIVED. THE GIVEN ROWS OF THIS SEAT. 6 by the template 'for every input the law returns true; each argument reads behind the call as it read before'; 0 by the template 'total and deterministic' (their statements: YtbnkojgcbmfloaaGreatTotals.lean).
  GIVEN WITH THE SEED: the statements are not yours to turn. If you find one false, say at which input.
  Laid BY PROGRAM, IN A SANDBOX (cutbox-rows.mjs): the forced cells as the released guide's own fill.sh prints them over the translation 0027afa2d5f6483a… (all of the seat's roots in one cut). By AI agents, Wed Nov 11 2026. No macro, syntax, notation, axiom, sorry.
-/
import Derived.Test.YtbnkojgcbmfloaaGreatChecked
import GoSem.Claim
import GoSem.ClaimJoined
import GoSem.ClaimMapViews
import Derived.JoinedTies
import Derived.KernelRfl
namespace Go.Proofs.YtbnkojgcbmfloaaGreat
/- THE CELL 'sum', in the pinned program and in every row, IS THE sha256 OF THE DUMP (.gsa) THAT YtbnkojgcbmfloaaGreatProg.lean LOADS. Nothing in Lean hashes anything: it is a label: what it is worth is what the hold of that sum in a sandbox is worth. -/
noncomputable def Tryz.pinned : Pinned := { name := "ytbnkojgcbmfloaagreat", sum := "0027afa2d5f6483a98b24c7f5b3d1e40bfc67cc762d6eb1e0acb83fc86166f20", checked := Tryz.checked }
namespace Rows
def none {H : Type} : Left H := { results := [], args := [] }

/-- 'laws.FnDeadlocks': WHATEVER THE INPUT: true; the input reads as it did. -/
def fnDeadlocksSpec : ChangeSpec := { name := "fnDeadlocks", fn := fun _ => fun
  | [d] => { results := [.lit (.bool true)], args := [d] }
  | _ => none }
def fnDeadlocksRow : OpenClaim := { program := "ytbnkojgcbmfloaagreat", sum := "0027afa2d5f6483a98b24c7f5b3d1e40bfc67cc762d6eb1e0acb83fc86166f20", func := "loop.example/g00811/laws.FnDeadlocks", spec := "fnDeadlocks", unfollowed := true, recurses := true, plainKeys := false, apart := false }
def FnDeadlocksSaid : Prop := fnDeadlocksRow.holds Tryz.pinned (OpenSpec.ofChange fnDeadlocksSpec)

/-- ITS FALSE NEIGHBOUR: 'it returns false'. Refute it at one input. -/
def fnDeadlocksWrong : ChangeSpec := { name := "fnDeadlocks", fn := fun _ => fun
  | [d] => { results := [.lit (.bool false)], args := [d] }
  | _ => none }
def FnDeadlocksWrongFalsely : Prop := fnDeadlocksRow.holds Tryz.pinned (OpenSpec.ofChange fnDeadlocksWrong)

/-- 'laws.FnCoordinate': WHATEVER THE INPUT: true; the input reads as it did. -/
def fnCoordinateSpec : ChangeSpec := { name := "fnCoordinate", fn := fun _ => fun
  | [d] => { results := [.lit (.bool true)], args := [d] }
  | _ => none }
def fnCoordinateRow : OpenClaim := { program := "ytbnkojgcbmfloaagreat", sum := "0027afa2d5f6483a98b24c7f5b3d1e40bfc67cc762d6eb1e0acb83fc86166f20", func := "loop.example/g00811/laws.FnCoordinate", spec := "fnCoordinate", unfollowed := true, recurses := true, plainKeys := false, apart := false }
def FnCoordinateSaid : Prop := fnCoordinateRow.holds Tryz.pinned (OpenSpec.ofChange fnCoordinateSpec)

/-- ITS FALSE NEIGHBOUR: 'it returns false'. Refute it at one input. -/
def fnCoordinateWrong : ChangeSpec := { name := "fnCoordinate", fn := fun _ => fun
  | [d] => { results := [.lit (.bool false)], args := [d] }
  | _ => none }
def FnCoordinateWrongFalsely : Prop := fnCoordinateRow.holds Tryz.pinned (OpenSpec.ofChange fnCoordinateWrong)

/-- 'laws.FnExactCountStates': WHATEVER THE INPUT: true; the input reads as it did. -/
def fnExactCountStatesSpec : ChangeSpec := { name := "fnExactCountStates", fn := fun _ => fun
  | [d] => { results := [.lit (.bool true)], args := [d] }
  | _ => none }
def fnExactCountStatesRow : OpenClaim := { program := "ytbnkojgcbmfloaagreat", sum := "0027afa2d5f6483a98b24c7f5b3d1e40bfc67cc762d6eb1e0acb83fc86166f20", func := "loop.example/g00811/laws.FnExactCountStates", spec := "fnExactCountStates", unfollowed := true, recurses := true, plainKeys := false, apart := false }
def FnExactCountStatesSaid : Prop := fnExactCountStatesRow.holds Tryz.pinned (OpenSpec.ofChange fnExactCountStatesSpec)

/-- ITS FALSE NEIGHBOUR: 'it returns false'. Refute it at one input. -/
def fnExactCountStatesWrong : ChangeSpec := { name := "fnExactCountStates", fn := fun _ => fun
  | [d] => { results := [.lit (.bool false)], args := [d] }
  | _ => none }
def FnExactCountStatesWrongFalsely : Prop := fnExactCountStatesRow.holds Tryz.pinned (OpenSpec.ofChange fnExactCountStatesWrong)

/-- 'laws.FnExactCountDeadlocks': WHATEVER THE INPUT: true; the input reads as it did. -/
def fnExactCountDeadlocksSpec : ChangeSpec := { name := "fnExactCountDeadlocks", fn := fun _ => fun
  | [d] => { results := [.lit (.bool true)], args := [d] }
  | _ => none }
def fnExactCountDeadlocksRow : OpenClaim := { program := "ytbnkojgcbmfloaagreat", sum := "0027afa2d5f6483a98b24c7f5b3d1e40bfc67cc762d6eb1e0acb83fc86166f20", func := "loop.example/g00811/laws.FnExactCountDeadlocks", spec := "fnExactCountDeadlocks", unfollowed := true, recurses := true, plainKeys := false, apart := false }
def FnExactCountDeadlocksSaid : Prop := fnExactCountDeadlocksRow.holds Tryz.pinned (OpenSpec.ofChange fnExactCountDeadlocksSpec)

/-- ITS FALSE NEIGHBOUR: 'it returns false'. Refute it at one input. -/
def fnExactCountDeadlocksWrong : ChangeSpec := { name := "fnExactCountDeadlocks", fn := fun _ => fun
  | [d] => { results := [.lit (.bool false)], args := [d] }
  | _ => none }
def FnExactCountDeadlocksWrongFalsely : Prop := fnExactCountDeadlocksRow.holds Tryz.pinned (OpenSpec.ofChange fnExactCountDeadlocksWrong)

/-- 'laws.FnExactCanFinish': WHATEVER THE INPUT: true; the input reads as it did. -/
def fnExactCanFinishSpec : ChangeSpec := { name := "fnExactCanFinish", fn := fun _ => fun
  | [d1, d2] => { results := [.lit (.bool true)], args := [d1, d2] }
  | _ => none }
def fnExactCanFinishRow : OpenClaim := { program := "ytbnkojgcbmfloaagreat", sum := "0027afa2d5f6483a98b24c7f5b3d1e40bfc67cc762d6eb1e0acb83fc86166f20", func := "loop.example/g00811/laws.FnExactCanFinish", spec := "fnExactCanFinish", unfollowed := true, recurses := true, plainKeys := false, apart := false }
def FnExactCanFinishSaid : Prop := fnExactCanFinishRow.holds Tryz.pinned (OpenSpec.ofChange fnExactCanFinishSpec)

/-- ITS FALSE NEIGHBOUR: 'it returns false'. Refute it at one input. -/
def fnExactCanFinishWrong : ChangeSpec := { name := "fnExactCanFinish", fn := fun _ => fun
  | [d1, d2] => { results := [.lit (.bool false)], args := [d1, d2] }
  | _ => none }
def FnExactCanFinishWrongFalsely : Prop := fnExactCanFinishRow.holds Tryz.pinned (OpenSpec.ofChange fnExactCanFinishWrong)

/-- 'laws.FnExactCoordinate': WHATEVER THE INPUT: true; the input reads as it did. -/
def fnExactCoordinateSpec : ChangeSpec := { name := "fnExactCoordinate", fn := fun _ => fun
  | [d] => { results := [.lit (.bool true)], args := [d] }
  | _ => none }
def fnExactCoordinateRow : OpenClaim := { program := "ytbnkojgcbmfloaagreat", sum := "0027afa2d5f6483a98b24c7f5b3d1e40bfc67cc762d6eb1e0acb83fc86166f20", func := "loop.example/g00811/laws.FnExactCoordinate", spec := "fnExactCoordinate", unfollowed := true, recurses := true, plainKeys := false, apart := false }
def FnExactCoordinateSaid : Prop := fnExactCoordinateRow.holds Tryz.pinned (OpenSpec.ofChange fnExactCoordinateSpec)

/-- ITS FALSE NEIGHBOUR: 'it returns false'. Refute it at one input. -/
def fnExactCoordinateWrong : ChangeSpec := { name := "fnExactCoordinate", fn := fun _ => fun
  | [d] => { results := [.lit (.bool false)], args := [d] }
  | _ => none }
def FnExactCoordinateWrongFalsely : Prop := fnExactCoordinateRow.holds Tryz.pinned (OpenSpec.ofChange fnExactCoordinateWrong)

/- THE SECOND FORM. 'bulk': how many values and letters a reading holds, each counted each time it is reached (what is shared counts as often as it is met; a slice's spare places count too). A statement '..UptoSaid' is the law's where the arguments, and the package variables that the reading takes, are together of bulk at most 1048576: NARROWER than '..Said'. Prove '..Said' where nothing that the law and all that it calls make is longer than what came in: it says more and counts as full. Else prove '..UptoSaid'. A law counts once. -/
mutual
def uptoBulk {H : Type} : DataW H → Nat
  | .lit (.string bytes) => bytes.length + 1
  | .lit _ => 1
  | .nil => 1
  | .ptr d => uptoBulk d + 1
  | .slice elems spare => uptoBulkAll elems + uptoBulkAll spare + 1
  | .agg parts => uptoBulkAll parts + 1
  | .iface _ d => uptoBulk d + 1
  | .map entries => uptoBulkEntries entries + 1
  | .held _ => 1
def uptoBulkAll {H : Type} : List (DataW H) → Nat
  | [] => 0
  | d :: r => uptoBulk d + uptoBulkAll r
def uptoBulkEntries {H : Type} : List (Lit × DataW H) → Nat
  | [] => 0
  | x :: r => uptoBulkEntry x + uptoBulkEntries r
def uptoBulkEntry {H : Type} : Lit × DataW H → Nat
  | (.string bytes, d) => bytes.length + uptoBulk d + 1
  | (_, d) => uptoBulk d + 1
 end
def uptoSmall : (H : Type) → List (DataW H) → Bool := fun _ ds => decide (uptoBulkAll ds ≤ 1048576)
def OpenSpec.upto (s : _root_.Go.ChangeSpec) : _root_.Go.OpenSpec := { _root_.Go.OpenSpec.ofChange s with cond := some uptoSmall }

/-- 'laws.FnDeadlocks', WHERE WHAT IT READS IS OF BULK AT MOST 1048576: true; the input reads as it did. -/
def fnDeadlocksUptoRow : OpenClaim := { program := "ytbnkojgcbmfloaagreat", sum := "0027afa2d5f6483a98b24c7f5b3d1e40bfc67cc762d6eb1e0acb83fc86166f20", func := "loop.example/g00811/laws.FnDeadlocks", spec := "fnDeadlocks", unfollowed := true, recurses := true, plainKeys := false, apart := false, narrowed := true }
def FnDeadlocksUptoSaid : Prop := fnDeadlocksUptoRow.holds Tryz.pinned (OpenSpec.upto fnDeadlocksSpec)

/-- 'laws.FnCoordinate', WHERE WHAT IT READS IS OF BULK AT MOST 1048576: true; the input reads as it did. -/
def fnCoordinateUptoRow : OpenClaim := { program := "ytbnkojgcbmfloaagreat", sum := "0027afa2d5f6483a98b24c7f5b3d1e40bfc67cc762d6eb1e0acb83fc86166f20", func := "loop.example/g00811/laws.FnCoordinate", spec := "fnCoordinate", unfollowed := true, recurses := true, plainKeys := false, apart := false, narrowed := true }
def FnCoordinateUptoSaid : Prop := fnCoordinateUptoRow.holds Tryz.pinned (OpenSpec.upto fnCoordinateSpec)

/-- 'laws.FnExactCountStates', WHERE WHAT IT READS IS OF BULK AT MOST 1048576: true; the input reads as it did. -/
def fnExactCountStatesUptoRow : OpenClaim := { program := "ytbnkojgcbmfloaagreat", sum := "0027afa2d5f6483a98b24c7f5b3d1e40bfc67cc762d6eb1e0acb83fc86166f20", func := "loop.example/g00811/laws.FnExactCountStates", spec := "fnExactCountStates", unfollowed := true, recurses := true, plainKeys := false, apart := false, narrowed := true }
def FnExactCountStatesUptoSaid : Prop := fnExactCountStatesUptoRow.holds Tryz.pinned (OpenSpec.upto fnExactCountStatesSpec)

/-- 'laws.FnExactCountDeadlocks', WHERE WHAT IT READS IS OF BULK AT MOST 1048576: true; the input reads as it did. -/
def fnExactCountDeadlocksUptoRow : OpenClaim := { program := "ytbnkojgcbmfloaagreat", sum := "0027afa2d5f6483a98b24c7f5b3d1e40bfc67cc762d6eb1e0acb83fc86166f20", func := "loop.example/g00811/laws.FnExactCountDeadlocks", spec := "fnExactCountDeadlocks", unfollowed := true, recurses := true, plainKeys := false, apart := false, narrowed := true }
def FnExactCountDeadlocksUptoSaid : Prop := fnExactCountDeadlocksUptoRow.holds Tryz.pinned (OpenSpec.upto fnExactCountDeadlocksSpec)

/-- 'laws.FnExactCanFinish', WHERE WHAT IT READS IS OF BULK AT MOST 1048576: true; the input reads as it did. -/
def fnExactCanFinishUptoRow : OpenClaim := { program := "ytbnkojgcbmfloaagreat", sum := "0027afa2d5f6483a98b24c7f5b3d1e40bfc67cc762d6eb1e0acb83fc86166f20", func := "loop.example/g00811/laws.FnExactCanFinish", spec := "fnExactCanFinish", unfollowed := true, recurses := true, plainKeys := false, apart := false, narrowed := true }
def FnExactCanFinishUptoSaid : Prop := fnExactCanFinishUptoRow.holds Tryz.pinned (OpenSpec.upto fnExactCanFinishSpec)

/-- 'laws.FnExactCoordinate', WHERE WHAT IT READS IS OF BULK AT MOST 1048576: true; the input reads as it did. -/
def fnExactCoordinateUptoRow : OpenClaim := { program := "ytbnkojgcbmfloaagreat", sum := "0027afa2d5f6483a98b24c7f5b3d1e40bfc67cc762d6eb1e0acb83fc86166f20", func := "loop.example/g00811/laws.FnExactCoordinate", spec := "fnExactCoordinate", unfollowed := true, recurses := true, plainKeys := false, apart := false, narrowed := true }
def FnExactCoordinateUptoSaid : Prop := fnExactCoordinateUptoRow.holds Tryz.pinned (OpenSpec.upto fnExactCoordinateSpec)

end Rows
end Go.Proofs.YtbnkojgcbmfloaaGreat
