/-
  No cell of these rows narrows 'for every input' (looked for: loops, veiled, ifaces, maps, wideKeys, modest, calm, conditions, laid).
  DERIVED. THE GIVEN ROWS OF THIS SEAT. 8 by the template 'for every input the law returns true; each argument reads behind the call as it read before'; 0 by the template 'total and deterministic' (their statements: YtffdhjnbppagjaaGreatTotals.lean).
  GIVEN WITH THE SEED: the statements are not yours to turn. If you find one false, say at which input.
  Laid BY PROGRAM, IN A SANDBOX (cutbox-rows.mjs): the forced cells as the released guide's own fill.sh prints them over the translation f5afb7c6dabdef70… (all of the seat's roots in one cut). By AI agents, Wed Nov 11 2026. No macro, syntax, notation, axiom, sorry.
-/
import Derived.Test.YtffdhjnbppagjaaGreatChecked
import GoSem.Claim
import GoSem.ClaimJoined
import GoSem.ClaimMapViews
import Derived.JoinedTies
import Derived.KernelRfl
namespace Go.Proofs.YtffdhjnbppagjaaGreat
/- THE CELL 'sum', in the pinned program and in every row, IS THE sha256 OF THE DUMP (.gsa) THAT YtffdhjnbppagjaaGreatProg.lean LOADS. Nothing in Lean hashes anything: it is a label: what it is worth is what the hold of that sum in a sandbox is worth. -/
noncomputable def Tryz.pinned : Pinned := { name := "ytffdhjnbppagjaagreat", sum := "f5afb7c6dabdef70a71e600d770261c1cc59ca709325d85f3c973ba3ad5ee22d", checked := Tryz.checked }
namespace Rows
def none {H : Type} : Left H := { results := [], args := [] }

/-- 'laws.FnExactMoveClearance': WHATEVER THE INPUT: true; the input reads as it did. -/
def fnExactMoveClearanceSpec : ChangeSpec := { name := "fnExactMoveClearance", fn := fun _ => fun
  | [d1, d2, d3, d4] => { results := [.lit (.bool true)], args := [d1, d2, d3, d4] }
  | _ => none }
def fnExactMoveClearanceRow : OpenClaim := { program := "ytffdhjnbppagjaagreat", sum := "f5afb7c6dabdef70a71e600d770261c1cc59ca709325d85f3c973ba3ad5ee22d", func := "loop.example/g00811/laws.FnExactMoveClearance", spec := "fnExactMoveClearance", unfollowed := true, recurses := true, apart := false }
def FnExactMoveClearanceSaid : Prop := fnExactMoveClearanceRow.holds Tryz.pinned (OpenSpec.ofChange fnExactMoveClearanceSpec)

/-- ITS FALSE NEIGHBOUR: 'it returns false'. Refute it at one input. -/
def fnExactMoveClearanceWrong : ChangeSpec := { name := "fnExactMoveClearance", fn := fun _ => fun
  | [d1, d2, d3, d4] => { results := [.lit (.bool false)], args := [d1, d2, d3, d4] }
  | _ => none }
def FnExactMoveClearanceWrongFalsely : Prop := fnExactMoveClearanceRow.holds Tryz.pinned (OpenSpec.ofChange fnExactMoveClearanceWrong)

/-- 'laws.FnExactCheckMotion': WHATEVER THE INPUT: true; the input reads as it did. -/
def fnExactCheckMotionSpec : ChangeSpec := { name := "fnExactCheckMotion", fn := fun _ => fun
  | [d1, d2, d3, d4] => { results := [.lit (.bool true)], args := [d1, d2, d3, d4] }
  | _ => none }
def fnExactCheckMotionRow : OpenClaim := { program := "ytffdhjnbppagjaagreat", sum := "f5afb7c6dabdef70a71e600d770261c1cc59ca709325d85f3c973ba3ad5ee22d", func := "loop.example/g00811/laws.FnExactCheckMotion", spec := "fnExactCheckMotion", unfollowed := true, recurses := true, apart := false }
def FnExactCheckMotionSaid : Prop := fnExactCheckMotionRow.holds Tryz.pinned (OpenSpec.ofChange fnExactCheckMotionSpec)

/-- ITS FALSE NEIGHBOUR: 'it returns false'. Refute it at one input. -/
def fnExactCheckMotionWrong : ChangeSpec := { name := "fnExactCheckMotion", fn := fun _ => fun
  | [d1, d2, d3, d4] => { results := [.lit (.bool false)], args := [d1, d2, d3, d4] }
  | _ => none }
def FnExactCheckMotionWrongFalsely : Prop := fnExactCheckMotionRow.holds Tryz.pinned (OpenSpec.ofChange fnExactCheckMotionWrong)

/-- 'laws.FnExactIsMotion': WHATEVER THE INPUT: true; the input reads as it did. -/
def fnExactIsMotionSpec : ChangeSpec := { name := "fnExactIsMotion", fn := fun _ => fun
  | [d1, d2, d3, d4] => { results := [.lit (.bool true)], args := [d1, d2, d3, d4] }
  | _ => none }
def fnExactIsMotionRow : OpenClaim := { program := "ytffdhjnbppagjaagreat", sum := "f5afb7c6dabdef70a71e600d770261c1cc59ca709325d85f3c973ba3ad5ee22d", func := "loop.example/g00811/laws.FnExactIsMotion", spec := "fnExactIsMotion", unfollowed := true, recurses := true, apart := false }
def FnExactIsMotionSaid : Prop := fnExactIsMotionRow.holds Tryz.pinned (OpenSpec.ofChange fnExactIsMotionSpec)

/-- ITS FALSE NEIGHBOUR: 'it returns false'. Refute it at one input. -/
def fnExactIsMotionWrong : ChangeSpec := { name := "fnExactIsMotion", fn := fun _ => fun
  | [d1, d2, d3, d4] => { results := [.lit (.bool false)], args := [d1, d2, d3, d4] }
  | _ => none }
def FnExactIsMotionWrongFalsely : Prop := fnExactIsMotionRow.holds Tryz.pinned (OpenSpec.ofChange fnExactIsMotionWrong)

/-- 'laws.FnExactFirstFault': WHATEVER THE INPUT: true; the input reads as it did. -/
def fnExactFirstFaultSpec : ChangeSpec := { name := "fnExactFirstFault", fn := fun _ => fun
  | [d1, d2, d3] => { results := [.lit (.bool true)], args := [d1, d2, d3] }
  | _ => none }
def fnExactFirstFaultRow : OpenClaim := { program := "ytffdhjnbppagjaagreat", sum := "f5afb7c6dabdef70a71e600d770261c1cc59ca709325d85f3c973ba3ad5ee22d", func := "loop.example/g00811/laws.FnExactFirstFault", spec := "fnExactFirstFault", unfollowed := true, recurses := true, apart := false }
def FnExactFirstFaultSaid : Prop := fnExactFirstFaultRow.holds Tryz.pinned (OpenSpec.ofChange fnExactFirstFaultSpec)

/-- ITS FALSE NEIGHBOUR: 'it returns false'. Refute it at one input. -/
def fnExactFirstFaultWrong : ChangeSpec := { name := "fnExactFirstFault", fn := fun _ => fun
  | [d1, d2, d3] => { results := [.lit (.bool false)], args := [d1, d2, d3] }
  | _ => none }
def FnExactFirstFaultWrongFalsely : Prop := fnExactFirstFaultRow.holds Tryz.pinned (OpenSpec.ofChange fnExactFirstFaultWrong)

/-- 'laws.FnExactIsShortest': WHATEVER THE INPUT: true; the input reads as it did. -/
def fnExactIsShortestSpec : ChangeSpec := { name := "fnExactIsShortest", fn := fun _ => fun
  | [d1, d2, d3] => { results := [.lit (.bool true)], args := [d1, d2, d3] }
  | _ => none }
def fnExactIsShortestRow : OpenClaim := { program := "ytffdhjnbppagjaagreat", sum := "f5afb7c6dabdef70a71e600d770261c1cc59ca709325d85f3c973ba3ad5ee22d", func := "loop.example/g00811/laws.FnExactIsShortest", spec := "fnExactIsShortest", unfollowed := true, recurses := true, apart := false }
def FnExactIsShortestSaid : Prop := fnExactIsShortestRow.holds Tryz.pinned (OpenSpec.ofChange fnExactIsShortestSpec)

/-- ITS FALSE NEIGHBOUR: 'it returns false'. Refute it at one input. -/
def fnExactIsShortestWrong : ChangeSpec := { name := "fnExactIsShortest", fn := fun _ => fun
  | [d1, d2, d3] => { results := [.lit (.bool false)], args := [d1, d2, d3] }
  | _ => none }
def FnExactIsShortestWrongFalsely : Prop := fnExactIsShortestRow.holds Tryz.pinned (OpenSpec.ofChange fnExactIsShortestWrong)

/-- 'laws.FnExactShortenMotion': WHATEVER THE INPUT: true; the input reads as it did. -/
def fnExactShortenMotionSpec : ChangeSpec := { name := "fnExactShortenMotion", fn := fun _ => fun
  | [d1, d2, d3] => { results := [.lit (.bool true)], args := [d1, d2, d3] }
  | _ => none }
def fnExactShortenMotionRow : OpenClaim := { program := "ytffdhjnbppagjaagreat", sum := "f5afb7c6dabdef70a71e600d770261c1cc59ca709325d85f3c973ba3ad5ee22d", func := "loop.example/g00811/laws.FnExactShortenMotion", spec := "fnExactShortenMotion", unfollowed := true, recurses := true, apart := false }
def FnExactShortenMotionSaid : Prop := fnExactShortenMotionRow.holds Tryz.pinned (OpenSpec.ofChange fnExactShortenMotionSpec)

/-- ITS FALSE NEIGHBOUR: 'it returns false'. Refute it at one input. -/
def fnExactShortenMotionWrong : ChangeSpec := { name := "fnExactShortenMotion", fn := fun _ => fun
  | [d1, d2, d3] => { results := [.lit (.bool false)], args := [d1, d2, d3] }
  | _ => none }
def FnExactShortenMotionWrongFalsely : Prop := fnExactShortenMotionRow.holds Tryz.pinned (OpenSpec.ofChange fnExactShortenMotionWrong)

/-- 'laws.FnExactChangedHeadings': WHATEVER THE INPUT: true; the input reads as it did. -/
def fnExactChangedHeadingsSpec : ChangeSpec := { name := "fnExactChangedHeadings", fn := fun _ => fun
  | [d1, d2] => { results := [.lit (.bool true)], args := [d1, d2] }
  | _ => none }
def fnExactChangedHeadingsRow : OpenClaim := { program := "ytffdhjnbppagjaagreat", sum := "f5afb7c6dabdef70a71e600d770261c1cc59ca709325d85f3c973ba3ad5ee22d", func := "loop.example/g00811/laws.FnExactChangedHeadings", spec := "fnExactChangedHeadings", unfollowed := true, recurses := true, apart := false }
def FnExactChangedHeadingsSaid : Prop := fnExactChangedHeadingsRow.holds Tryz.pinned (OpenSpec.ofChange fnExactChangedHeadingsSpec)

/-- ITS FALSE NEIGHBOUR: 'it returns false'. Refute it at one input. -/
def fnExactChangedHeadingsWrong : ChangeSpec := { name := "fnExactChangedHeadings", fn := fun _ => fun
  | [d1, d2] => { results := [.lit (.bool false)], args := [d1, d2] }
  | _ => none }
def FnExactChangedHeadingsWrongFalsely : Prop := fnExactChangedHeadingsRow.holds Tryz.pinned (OpenSpec.ofChange fnExactChangedHeadingsWrong)

/-- 'laws.FnClearance': WHATEVER THE INPUT: true; the input reads as it did. -/
def fnClearanceSpec : ChangeSpec := { name := "fnClearance", fn := fun _ => fun
  | [d] => { results := [.lit (.bool true)], args := [d] }
  | _ => none }
def fnClearanceRow : OpenClaim := { program := "ytffdhjnbppagjaagreat", sum := "f5afb7c6dabdef70a71e600d770261c1cc59ca709325d85f3c973ba3ad5ee22d", func := "loop.example/g00811/laws.FnClearance", spec := "fnClearance", unfollowed := true, recurses := true, apart := false }
def FnClearanceSaid : Prop := fnClearanceRow.holds Tryz.pinned (OpenSpec.ofChange fnClearanceSpec)

/-- ITS FALSE NEIGHBOUR: 'it returns false'. Refute it at one input. -/
def fnClearanceWrong : ChangeSpec := { name := "fnClearance", fn := fun _ => fun
  | [d] => { results := [.lit (.bool false)], args := [d] }
  | _ => none }
def FnClearanceWrongFalsely : Prop := fnClearanceRow.holds Tryz.pinned (OpenSpec.ofChange fnClearanceWrong)

/- THE SECOND FORM. 'bulk': how many values and letters a reading holds, each counted each time it is reached (what is shared counts as often as it is met; a slice's spare places count too). A statement '..UptoSaid' is the law's where the arguments, and the package variables that the reading takes, are together of bulk at most 1048576: NARROWER than '..Said'. Prove '..Said' where nothing that the law and all that it calls make is longer than what came in: it says more and counts as full. Else prove '..UptoSaid'. A law counts once. -/
mutual
def uptoBulk {H : Type} : DataW H → Nat
  | .lit (.string bytes) => bytes.length + 1
  | .lit _ => 1
  | .nil => 1
  | .ptr d => uptoBulk d + 1
  | .slice elems spare => uptoBulkAll elems + uptoBulkAll spare + 1
  | .agg parts => uptoBulkAll parts + 1
  | .iface _ d => uptoBulk d + 1
  | .map entries => uptoBulkEntries entries + 1
  | .held _ => 1
def uptoBulkAll {H : Type} : List (DataW H) → Nat
  | [] => 0
  | d :: r => uptoBulk d + uptoBulkAll r
def uptoBulkEntries {H : Type} : List (Lit × DataW H) → Nat
  | [] => 0
  | x :: r => uptoBulkEntry x + uptoBulkEntries r
def uptoBulkEntry {H : Type} : Lit × DataW H → Nat
  | (.string bytes, d) => bytes.length + uptoBulk d + 1
  | (_, d) => uptoBulk d + 1
 end
def uptoSmall : (H : Type) → List (DataW H) → Bool := fun _ ds => decide (uptoBulkAll ds ≤ 1048576)
def OpenSpec.upto (s : _root_.Go.ChangeSpec) : _root_.Go.OpenSpec := { _root_.Go.OpenSpec.ofChange s with cond := some uptoSmall }

/-- 'laws.FnExactMoveClearance', WHERE WHAT IT READS IS OF BULK AT MOST 1048576: true; the input reads as it did. -/
def fnExactMoveClearanceUptoRow : OpenClaim := { program := "ytffdhjnbppagjaagreat", sum := "f5afb7c6dabdef70a71e600d770261c1cc59ca709325d85f3c973ba3ad5ee22d", func := "loop.example/g00811/laws.FnExactMoveClearance", spec := "fnExactMoveClearance", unfollowed := true, recurses := true, apart := false, narrowed := true }
def FnExactMoveClearanceUptoSaid : Prop := fnExactMoveClearanceUptoRow.holds Tryz.pinned (OpenSpec.upto fnExactMoveClearanceSpec)

/-- 'laws.FnExactCheckMotion', WHERE WHAT IT READS IS OF BULK AT MOST 1048576: true; the input reads as it did. -/
def fnExactCheckMotionUptoRow : OpenClaim := { program := "ytffdhjnbppagjaagreat", sum := "f5afb7c6dabdef70a71e600d770261c1cc59ca709325d85f3c973ba3ad5ee22d", func := "loop.example/g00811/laws.FnExactCheckMotion", spec := "fnExactCheckMotion", unfollowed := true, recurses := true, apart := false, narrowed := true }
def FnExactCheckMotionUptoSaid : Prop := fnExactCheckMotionUptoRow.holds Tryz.pinned (OpenSpec.upto fnExactCheckMotionSpec)

/-- 'laws.FnExactIsMotion', WHERE WHAT IT READS IS OF BULK AT MOST 1048576: true; the input reads as it did. -/
def fnExactIsMotionUptoRow : OpenClaim := { program := "ytffdhjnbppagjaagreat", sum := "f5afb7c6dabdef70a71e600d770261c1cc59ca709325d85f3c973ba3ad5ee22d", func := "loop.example/g00811/laws.FnExactIsMotion", spec := "fnExactIsMotion", unfollowed := true, recurses := true, apart := false, narrowed := true }
def FnExactIsMotionUptoSaid : Prop := fnExactIsMotionUptoRow.holds Tryz.pinned (OpenSpec.upto fnExactIsMotionSpec)

/-- 'laws.FnExactFirstFault', WHERE WHAT IT READS IS OF BULK AT MOST 1048576: true; the input reads as it did. -/
def fnExactFirstFaultUptoRow : OpenClaim := { program := "ytffdhjnbppagjaagreat", sum := "f5afb7c6dabdef70a71e600d770261c1cc59ca709325d85f3c973ba3ad5ee22d", func := "loop.example/g00811/laws.FnExactFirstFault", spec := "fnExactFirstFault", unfollowed := true, recurses := true, apart := false, narrowed := true }
def FnExactFirstFaultUptoSaid : Prop := fnExactFirstFaultUptoRow.holds Tryz.pinned (OpenSpec.upto fnExactFirstFaultSpec)

/-- 'laws.FnExactIsShortest', WHERE WHAT IT READS IS OF BULK AT MOST 1048576: true; the input reads as it did. -/
def fnExactIsShortestUptoRow : OpenClaim := { program := "ytffdhjnbppagjaagreat", sum := "f5afb7c6dabdef70a71e600d770261c1cc59ca709325d85f3c973ba3ad5ee22d", func := "loop.example/g00811/laws.FnExactIsShortest", spec := "fnExactIsShortest", unfollowed := true, recurses := true, apart := false, narrowed := true }
def FnExactIsShortestUptoSaid : Prop := fnExactIsShortestUptoRow.holds Tryz.pinned (OpenSpec.upto fnExactIsShortestSpec)

/-- 'laws.FnExactShortenMotion', WHERE WHAT IT READS IS OF BULK AT MOST 1048576: true; the input reads as it did. -/
def fnExactShortenMotionUptoRow : OpenClaim := { program := "ytffdhjnbppagjaagreat", sum := "f5afb7c6dabdef70a71e600d770261c1cc59ca709325d85f3c973ba3ad5ee22d", func := "loop.example/g00811/laws.FnExactShortenMotion", spec := "fnExactShortenMotion", unfollowed := true, recurses := true, apart := false, narrowed := true }
def FnExactShortenMotionUptoSaid : Prop := fnExactShortenMotionUptoRow.holds Tryz.pinned (OpenSpec.upto fnExactShortenMotionSpec)

/-- 'laws.FnExactChangedHeadings', WHERE WHAT IT READS IS OF BULK AT MOST 1048576: true; the input reads as it did. -/
def fnExactChangedHeadingsUptoRow : OpenClaim := { program := "ytffdhjnbppagjaagreat", sum := "f5afb7c6dabdef70a71e600d770261c1cc59ca709325d85f3c973ba3ad5ee22d", func := "loop.example/g00811/laws.FnExactChangedHeadings", spec := "fnExactChangedHeadings", unfollowed := true, recurses := true, apart := false, narrowed := true }
def FnExactChangedHeadingsUptoSaid : Prop := fnExactChangedHeadingsUptoRow.holds Tryz.pinned (OpenSpec.upto fnExactChangedHeadingsSpec)

/-- 'laws.FnClearance', WHERE WHAT IT READS IS OF BULK AT MOST 1048576: true; the input reads as it did. -/
def fnClearanceUptoRow : OpenClaim := { program := "ytffdhjnbppagjaagreat", sum := "f5afb7c6dabdef70a71e600d770261c1cc59ca709325d85f3c973ba3ad5ee22d", func := "loop.example/g00811/laws.FnClearance", spec := "fnClearance", unfollowed := true, recurses := true, apart := false, narrowed := true }
def FnClearanceUptoSaid : Prop := fnClearanceUptoRow.holds Tryz.pinned (OpenSpec.upto fnClearanceSpec)

end Rows
end Go.Proofs.YtffdhjnbppagjaaGreat
