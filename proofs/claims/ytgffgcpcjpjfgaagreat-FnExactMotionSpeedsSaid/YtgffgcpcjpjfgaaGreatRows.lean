/-
  No cell of these rows narrows 'for every input' (looked for: loops, veiled, ifaces, maps, wideKeys, modest, calm, conditions, laid).
  DERIVED. THE GIVEN ROWS OF THIS SEAT. 5 by the template 'for every input the law returns true; each argument reads behind the call as it read before'; 0 by the template 'total and deterministic' (their statements: YtgffgcpcjpjfgaaGreatTotals.lean).
  GIVEN WITH THE SEED: the statements are not yours to turn. If you find one false, say at which input.
  Laid BY PROGRAM, IN A SANDBOX (cutbox-rows.mjs): the forced cells as the released guide's own fill.sh prints them over the translation 30198e1c0d0f4839… (all of the seat's roots in one cut). By AI agents, Wed Nov 11 2026. No macro, syntax, notation, axiom, sorry.
-/
import Derived.Test.YtgffgcpcjpjfgaaGreatChecked
import GoSem.Claim
import GoSem.ClaimJoined
import GoSem.ClaimMapViews
import Derived.JoinedTies
import Derived.KernelRfl
namespace Go.Proofs.YtgffgcpcjpjfgaaGreat
/- THE CELL 'sum', in the pinned program and in every row, IS THE sha256 OF THE DUMP (.gsa) THAT YtgffgcpcjpjfgaaGreatProg.lean LOADS. Nothing in Lean hashes anything: it is a label: what it is worth is what the hold of that sum in a sandbox is worth. -/
noncomputable def Tryz.pinned : Pinned := { name := "ytgffgcpcjpjfgaagreat", sum := "30198e1c0d0f483960a2029e03bf631b4f4fdfce04afd51a21dc1d4f5685a2d5", checked := Tryz.checked }
namespace Rows
def none {H : Type} : Left H := { results := [], args := [] }

/-- 'laws.FnExactMotionLength': WHATEVER THE INPUT: true; the input reads as it did. -/
def fnExactMotionLengthSpec : ChangeSpec := { name := "fnExactMotionLength", fn := fun _ => fun
  | [d1, d2] => { results := [.lit (.bool true)], args := [d1, d2] }
  | _ => none }
def fnExactMotionLengthRow : OpenClaim := { program := "ytgffgcpcjpjfgaagreat", sum := "30198e1c0d0f483960a2029e03bf631b4f4fdfce04afd51a21dc1d4f5685a2d5", func := "loop.example/g00811/laws.FnExactMotionLength", spec := "fnExactMotionLength", unfollowed := true, recurses := true, apart := false }
def FnExactMotionLengthSaid : Prop := fnExactMotionLengthRow.holds Tryz.pinned (OpenSpec.ofChange fnExactMotionLengthSpec)

/-- ITS FALSE NEIGHBOUR: 'it returns false'. Refute it at one input. -/
def fnExactMotionLengthWrong : ChangeSpec := { name := "fnExactMotionLength", fn := fun _ => fun
  | [d1, d2] => { results := [.lit (.bool false)], args := [d1, d2] }
  | _ => none }
def FnExactMotionLengthWrongFalsely : Prop := fnExactMotionLengthRow.holds Tryz.pinned (OpenSpec.ofChange fnExactMotionLengthWrong)

/-- 'laws.FnExactStandOf': WHATEVER THE INPUT: true; the input reads as it did. -/
def fnExactStandOfSpec : ChangeSpec := { name := "fnExactStandOf", fn := fun _ => fun
  | [d1, d2] => { results := [.lit (.bool true)], args := [d1, d2] }
  | _ => none }
def fnExactStandOfRow : OpenClaim := { program := "ytgffgcpcjpjfgaagreat", sum := "30198e1c0d0f483960a2029e03bf631b4f4fdfce04afd51a21dc1d4f5685a2d5", func := "loop.example/g00811/laws.FnExactStandOf", spec := "fnExactStandOf", unfollowed := true, recurses := true, apart := false }
def FnExactStandOfSaid : Prop := fnExactStandOfRow.holds Tryz.pinned (OpenSpec.ofChange fnExactStandOfSpec)

/-- ITS FALSE NEIGHBOUR: 'it returns false'. Refute it at one input. -/
def fnExactStandOfWrong : ChangeSpec := { name := "fnExactStandOf", fn := fun _ => fun
  | [d1, d2] => { results := [.lit (.bool false)], args := [d1, d2] }
  | _ => none }
def FnExactStandOfWrongFalsely : Prop := fnExactStandOfRow.holds Tryz.pinned (OpenSpec.ofChange fnExactStandOfWrong)

/-- 'laws.FnExactIsValidTour': WHATEVER THE INPUT: true; the input reads as it did. -/
def fnExactIsValidTourSpec : ChangeSpec := { name := "fnExactIsValidTour", fn := fun _ => fun
  | [d] => { results := [.lit (.bool true)], args := [d] }
  | _ => none }
def fnExactIsValidTourRow : OpenClaim := { program := "ytgffgcpcjpjfgaagreat", sum := "30198e1c0d0f483960a2029e03bf631b4f4fdfce04afd51a21dc1d4f5685a2d5", func := "loop.example/g00811/laws.FnExactIsValidTour", spec := "fnExactIsValidTour", unfollowed := true, recurses := true, apart := false }
def FnExactIsValidTourSaid : Prop := fnExactIsValidTourRow.holds Tryz.pinned (OpenSpec.ofChange fnExactIsValidTourSpec)

/-- ITS FALSE NEIGHBOUR: 'it returns false'. Refute it at one input. -/
def fnExactIsValidTourWrong : ChangeSpec := { name := "fnExactIsValidTour", fn := fun _ => fun
  | [d] => { results := [.lit (.bool false)], args := [d] }
  | _ => none }
def FnExactIsValidTourWrongFalsely : Prop := fnExactIsValidTourRow.holds Tryz.pinned (OpenSpec.ofChange fnExactIsValidTourWrong)

/-- 'laws.FnExactSpeedProfile': WHATEVER THE INPUT: true; the input reads as it did. -/
def fnExactSpeedProfileSpec : ChangeSpec := { name := "fnExactSpeedProfile", fn := fun _ => fun
  | [d1, d2, d3] => { results := [.lit (.bool true)], args := [d1, d2, d3] }
  | _ => none }
def fnExactSpeedProfileRow : OpenClaim := { program := "ytgffgcpcjpjfgaagreat", sum := "30198e1c0d0f483960a2029e03bf631b4f4fdfce04afd51a21dc1d4f5685a2d5", func := "loop.example/g00811/laws.FnExactSpeedProfile", spec := "fnExactSpeedProfile", unfollowed := true, recurses := true, apart := false }
def FnExactSpeedProfileSaid : Prop := fnExactSpeedProfileRow.holds Tryz.pinned (OpenSpec.ofChange fnExactSpeedProfileSpec)

/-- ITS FALSE NEIGHBOUR: 'it returns false'. Refute it at one input. -/
def fnExactSpeedProfileWrong : ChangeSpec := { name := "fnExactSpeedProfile", fn := fun _ => fun
  | [d1, d2, d3] => { results := [.lit (.bool false)], args := [d1, d2, d3] }
  | _ => none }
def FnExactSpeedProfileWrongFalsely : Prop := fnExactSpeedProfileRow.holds Tryz.pinned (OpenSpec.ofChange fnExactSpeedProfileWrong)

/-- 'laws.FnExactMotionSpeeds': WHATEVER THE INPUT: true; the input reads as it did. -/
def fnExactMotionSpeedsSpec : ChangeSpec := { name := "fnExactMotionSpeeds", fn := fun _ => fun
  | [d1, d2, d3, d4] => { results := [.lit (.bool true)], args := [d1, d2, d3, d4] }
  | _ => none }
def fnExactMotionSpeedsRow : OpenClaim := { program := "ytgffgcpcjpjfgaagreat", sum := "30198e1c0d0f483960a2029e03bf631b4f4fdfce04afd51a21dc1d4f5685a2d5", func := "loop.example/g00811/laws.FnExactMotionSpeeds", spec := "fnExactMotionSpeeds", unfollowed := true, recurses := true, apart := false }
def FnExactMotionSpeedsSaid : Prop := fnExactMotionSpeedsRow.holds Tryz.pinned (OpenSpec.ofChange fnExactMotionSpeedsSpec)

/-- ITS FALSE NEIGHBOUR: 'it returns false'. Refute it at one input. -/
def fnExactMotionSpeedsWrong : ChangeSpec := { name := "fnExactMotionSpeeds", fn := fun _ => fun
  | [d1, d2, d3, d4] => { results := [.lit (.bool false)], args := [d1, d2, d3, d4] }
  | _ => none }
def FnExactMotionSpeedsWrongFalsely : Prop := fnExactMotionSpeedsRow.holds Tryz.pinned (OpenSpec.ofChange fnExactMotionSpeedsWrong)

/- THE SECOND FORM. 'bulk': how many values and letters a reading holds, each counted each time it is reached (what is shared counts as often as it is met; a slice's spare places count too). A statement '..UptoSaid' is the law's where the arguments, and the package variables that the reading takes, are together of bulk at most 1048576: NARROWER than '..Said'. Prove '..Said' where nothing that the law and all that it calls make is longer than what came in: it says more and counts as full. Else prove '..UptoSaid'. A law counts once. -/
mutual
def uptoBulk {H : Type} : DataW H → Nat
  | .lit (.string bytes) => bytes.length + 1
  | .lit _ => 1
  | .nil => 1
  | .ptr d => uptoBulk d + 1
  | .slice elems spare => uptoBulkAll elems + uptoBulkAll spare + 1
  | .agg parts => uptoBulkAll parts + 1
  | .iface _ d => uptoBulk d + 1
  | .map entries => uptoBulkEntries entries + 1
  | .held _ => 1
def uptoBulkAll {H : Type} : List (DataW H) → Nat
  | [] => 0
  | d :: r => uptoBulk d + uptoBulkAll r
def uptoBulkEntries {H : Type} : List (Lit × DataW H) → Nat
  | [] => 0
  | x :: r => uptoBulkEntry x + uptoBulkEntries r
def uptoBulkEntry {H : Type} : Lit × DataW H → Nat
  | (.string bytes, d) => bytes.length + uptoBulk d + 1
  | (_, d) => uptoBulk d + 1
 end
def uptoSmall : (H : Type) → List (DataW H) → Bool := fun _ ds => decide (uptoBulkAll ds ≤ 1048576)
def OpenSpec.upto (s : _root_.Go.ChangeSpec) : _root_.Go.OpenSpec := { _root_.Go.OpenSpec.ofChange s with cond := some uptoSmall }

/-- 'laws.FnExactMotionLength', WHERE WHAT IT READS IS OF BULK AT MOST 1048576: true; the input reads as it did. -/
def fnExactMotionLengthUptoRow : OpenClaim := { program := "ytgffgcpcjpjfgaagreat", sum := "30198e1c0d0f483960a2029e03bf631b4f4fdfce04afd51a21dc1d4f5685a2d5", func := "loop.example/g00811/laws.FnExactMotionLength", spec := "fnExactMotionLength", unfollowed := true, recurses := true, apart := false, narrowed := true }
def FnExactMotionLengthUptoSaid : Prop := fnExactMotionLengthUptoRow.holds Tryz.pinned (OpenSpec.upto fnExactMotionLengthSpec)

/-- 'laws.FnExactStandOf', WHERE WHAT IT READS IS OF BULK AT MOST 1048576: true; the input reads as it did. -/
def fnExactStandOfUptoRow : OpenClaim := { program := "ytgffgcpcjpjfgaagreat", sum := "30198e1c0d0f483960a2029e03bf631b4f4fdfce04afd51a21dc1d4f5685a2d5", func := "loop.example/g00811/laws.FnExactStandOf", spec := "fnExactStandOf", unfollowed := true, recurses := true, apart := false, narrowed := true }
def FnExactStandOfUptoSaid : Prop := fnExactStandOfUptoRow.holds Tryz.pinned (OpenSpec.upto fnExactStandOfSpec)

/-- 'laws.FnExactIsValidTour', WHERE WHAT IT READS IS OF BULK AT MOST 1048576: true; the input reads as it did. -/
def fnExactIsValidTourUptoRow : OpenClaim := { program := "ytgffgcpcjpjfgaagreat", sum := "30198e1c0d0f483960a2029e03bf631b4f4fdfce04afd51a21dc1d4f5685a2d5", func := "loop.example/g00811/laws.FnExactIsValidTour", spec := "fnExactIsValidTour", unfollowed := true, recurses := true, apart := false, narrowed := true }
def FnExactIsValidTourUptoSaid : Prop := fnExactIsValidTourUptoRow.holds Tryz.pinned (OpenSpec.upto fnExactIsValidTourSpec)

/-- 'laws.FnExactSpeedProfile', WHERE WHAT IT READS IS OF BULK AT MOST 1048576: true; the input reads as it did. -/
def fnExactSpeedProfileUptoRow : OpenClaim := { program := "ytgffgcpcjpjfgaagreat", sum := "30198e1c0d0f483960a2029e03bf631b4f4fdfce04afd51a21dc1d4f5685a2d5", func := "loop.example/g00811/laws.FnExactSpeedProfile", spec := "fnExactSpeedProfile", unfollowed := true, recurses := true, apart := false, narrowed := true }
def FnExactSpeedProfileUptoSaid : Prop := fnExactSpeedProfileUptoRow.holds Tryz.pinned (OpenSpec.upto fnExactSpeedProfileSpec)

/-- 'laws.FnExactMotionSpeeds', WHERE WHAT IT READS IS OF BULK AT MOST 1048576: true; the input reads as it did. -/
def fnExactMotionSpeedsUptoRow : OpenClaim := { program := "ytgffgcpcjpjfgaagreat", sum := "30198e1c0d0f483960a2029e03bf631b4f4fdfce04afd51a21dc1d4f5685a2d5", func := "loop.example/g00811/laws.FnExactMotionSpeeds", spec := "fnExactMotionSpeeds", unfollowed := true, recurses := true, apart := false, narrowed := true }
def FnExactMotionSpeedsUptoSaid : Prop := fnExactMotionSpeedsUptoRow.holds Tryz.pinned (OpenSpec.upto fnExactMotionSpeedsSpec)

end Rows
end Go.Proofs.YtgffgcpcjpjfgaaGreat
