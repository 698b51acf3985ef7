/-
  No cell of these rows narrows 'for every input' (looked for: loops, veiled, ifaces, maps, wideKeys, modest, calm, conditions, laid).
  DERIVED. THE GIVEN ROWS OF THIS SEAT. 7 by the template 'for every input the law returns true; each argument reads behind the call as it read before'; 0 by the template 'total and deterministic' (their statements: YtkaclgdhlpphhaaGreatTotals.lean).
  GIVEN WITH THE SEED: the statements are not yours to turn. If you find one false, say at which input.
  Laid BY PROGRAM, IN A SANDBOX (cutbox-rows.mjs): the forced cells as the released guide's own fill.sh prints them over the translation 3a3be881f50fbef4… (all of the seat's roots in one cut). By AI agents, Wed Nov 11 2026. No macro, syntax, notation, axiom, sorry.
-/
import Derived.Test.YtkaclgdhlpphhaaGreatChecked
import GoSem.Claim
import GoSem.ClaimJoined
import GoSem.ClaimMapViews
import Derived.JoinedTies
import Derived.KernelRfl
namespace Go.Proofs.YtkaclgdhlpphhaaGreat
/- THE CELL 'sum', in the pinned program and in every row, IS THE sha256 OF THE DUMP (.gsa) THAT YtkaclgdhlpphhaaGreatProg.lean LOADS. Nothing in Lean hashes anything: it is a label: what it is worth is what the hold of that sum in a sandbox is worth. -/
noncomputable def Tryz.pinned : Pinned := { name := "ytkaclgdhlpphhaagreat", sum := "3a3be881f50fbef4b3b99ead76a60b81234714678ae9d4934e8b5b0ec91c4043", checked := Tryz.checked }
namespace Rows
def none {H : Type} : Left H := { results := [], args := [] }

/-- 'laws.FnSeparation': WHATEVER THE INPUT: true; the input reads as it did. -/
def fnSeparationSpec : ChangeSpec := { name := "fnSeparation", fn := fun _ => fun
  | [d] => { results := [.lit (.bool true)], args := [d] }
  | _ => none }
def fnSeparationRow : OpenClaim := { program := "ytkaclgdhlpphhaagreat", sum := "3a3be881f50fbef4b3b99ead76a60b81234714678ae9d4934e8b5b0ec91c4043", func := "loop.example/g00811/laws.FnSeparation", spec := "fnSeparation", unfollowed := true, recurses := true, apart := false }
def FnSeparationSaid : Prop := fnSeparationRow.holds Tryz.pinned (OpenSpec.ofChange fnSeparationSpec)

/-- ITS FALSE NEIGHBOUR: 'it returns false'. Refute it at one input. -/
def fnSeparationWrong : ChangeSpec := { name := "fnSeparation", fn := fun _ => fun
  | [d] => { results := [.lit (.bool false)], args := [d] }
  | _ => none }
def FnSeparationWrongFalsely : Prop := fnSeparationRow.holds Tryz.pinned (OpenSpec.ofChange fnSeparationWrong)

/-- 'laws.FnTop': WHATEVER THE INPUT: true; the input reads as it did. -/
def fnTopSpec : ChangeSpec := { name := "fnTop", fn := fun _ => fun
  | [d] => { results := [.lit (.bool true)], args := [d] }
  | _ => none }
def fnTopRow : OpenClaim := { program := "ytkaclgdhlpphhaagreat", sum := "3a3be881f50fbef4b3b99ead76a60b81234714678ae9d4934e8b5b0ec91c4043", func := "loop.example/g00811/laws.FnTop", spec := "fnTop", unfollowed := true, recurses := true, apart := false }
def FnTopSaid : Prop := fnTopRow.holds Tryz.pinned (OpenSpec.ofChange fnTopSpec)

/-- ITS FALSE NEIGHBOUR: 'it returns false'. Refute it at one input. -/
def fnTopWrong : ChangeSpec := { name := "fnTop", fn := fun _ => fun
  | [d] => { results := [.lit (.bool false)], args := [d] }
  | _ => none }
def FnTopWrongFalsely : Prop := fnTopRow.holds Tryz.pinned (OpenSpec.ofChange fnTopWrong)

/-- 'laws.FnShorten': WHATEVER THE INPUT: true; the input reads as it did. -/
def fnShortenSpec : ChangeSpec := { name := "fnShorten", fn := fun _ => fun
  | [d] => { results := [.lit (.bool true)], args := [d] }
  | _ => none }
def fnShortenRow : OpenClaim := { program := "ytkaclgdhlpphhaagreat", sum := "3a3be881f50fbef4b3b99ead76a60b81234714678ae9d4934e8b5b0ec91c4043", func := "loop.example/g00811/laws.FnShorten", spec := "fnShorten", unfollowed := true, recurses := true, apart := false }
def FnShortenSaid : Prop := fnShortenRow.holds Tryz.pinned (OpenSpec.ofChange fnShortenSpec)

/-- ITS FALSE NEIGHBOUR: 'it returns false'. Refute it at one input. -/
def fnShortenWrong : ChangeSpec := { name := "fnShorten", fn := fun _ => fun
  | [d] => { results := [.lit (.bool false)], args := [d] }
  | _ => none }
def FnShortenWrongFalsely : Prop := fnShortenRow.holds Tryz.pinned (OpenSpec.ofChange fnShortenWrong)

/-- 'laws.FnStops': WHATEVER THE INPUT: true; the input reads as it did. -/
def fnStopsSpec : ChangeSpec := { name := "fnStops", fn := fun _ => fun
  | [d] => { results := [.lit (.bool true)], args := [d] }
  | _ => none }
def fnStopsRow : OpenClaim := { program := "ytkaclgdhlpphhaagreat", sum := "3a3be881f50fbef4b3b99ead76a60b81234714678ae9d4934e8b5b0ec91c4043", func := "loop.example/g00811/laws.FnStops", spec := "fnStops", unfollowed := true, recurses := true, apart := false }
def FnStopsSaid : Prop := fnStopsRow.holds Tryz.pinned (OpenSpec.ofChange fnStopsSpec)

/-- ITS FALSE NEIGHBOUR: 'it returns false'. Refute it at one input. -/
def fnStopsWrong : ChangeSpec := { name := "fnStops", fn := fun _ => fun
  | [d] => { results := [.lit (.bool false)], args := [d] }
  | _ => none }
def FnStopsWrongFalsely : Prop := fnStopsRow.holds Tryz.pinned (OpenSpec.ofChange fnStopsWrong)

/-- 'laws.FnContinue': WHATEVER THE INPUT: true; the input reads as it did. -/
def fnContinueSpec : ChangeSpec := { name := "fnContinue", fn := fun _ => fun
  | [d] => { results := [.lit (.bool true)], args := [d] }
  | _ => none }
def fnContinueRow : OpenClaim := { program := "ytkaclgdhlpphhaagreat", sum := "3a3be881f50fbef4b3b99ead76a60b81234714678ae9d4934e8b5b0ec91c4043", func := "loop.example/g00811/laws.FnContinue", spec := "fnContinue", unfollowed := true, recurses := true, apart := false }
def FnContinueSaid : Prop := fnContinueRow.holds Tryz.pinned (OpenSpec.ofChange fnContinueSpec)

/-- ITS FALSE NEIGHBOUR: 'it returns false'. Refute it at one input. -/
def fnContinueWrong : ChangeSpec := { name := "fnContinue", fn := fun _ => fun
  | [d] => { results := [.lit (.bool false)], args := [d] }
  | _ => none }
def FnContinueWrongFalsely : Prop := fnContinueRow.holds Tryz.pinned (OpenSpec.ofChange fnContinueWrong)

/-- 'laws.FnReverse': WHATEVER THE INPUT: true; the input reads as it did. -/
def fnReverseSpec : ChangeSpec := { name := "fnReverse", fn := fun _ => fun
  | [d] => { results := [.lit (.bool true)], args := [d] }
  | _ => none }
def fnReverseRow : OpenClaim := { program := "ytkaclgdhlpphhaagreat", sum := "3a3be881f50fbef4b3b99ead76a60b81234714678ae9d4934e8b5b0ec91c4043", func := "loop.example/g00811/laws.FnReverse", spec := "fnReverse", unfollowed := true, recurses := true, apart := false }
def FnReverseSaid : Prop := fnReverseRow.holds Tryz.pinned (OpenSpec.ofChange fnReverseSpec)

/-- ITS FALSE NEIGHBOUR: 'it returns false'. Refute it at one input. -/
def fnReverseWrong : ChangeSpec := { name := "fnReverse", fn := fun _ => fun
  | [d] => { results := [.lit (.bool false)], args := [d] }
  | _ => none }
def FnReverseWrongFalsely : Prop := fnReverseRow.holds Tryz.pinned (OpenSpec.ofChange fnReverseWrong)

/-- 'laws.FnRepair': WHATEVER THE INPUT: true; the input reads as it did. -/
def fnRepairSpec : ChangeSpec := { name := "fnRepair", fn := fun _ => fun
  | [d] => { results := [.lit (.bool true)], args := [d] }
  | _ => none }
def fnRepairRow : OpenClaim := { program := "ytkaclgdhlpphhaagreat", sum := "3a3be881f50fbef4b3b99ead76a60b81234714678ae9d4934e8b5b0ec91c4043", func := "loop.example/g00811/laws.FnRepair", spec := "fnRepair", unfollowed := true, recurses := true, apart := false }
def FnRepairSaid : Prop := fnRepairRow.holds Tryz.pinned (OpenSpec.ofChange fnRepairSpec)

/-- ITS FALSE NEIGHBOUR: 'it returns false'. Refute it at one input. -/
def fnRepairWrong : ChangeSpec := { name := "fnRepair", fn := fun _ => fun
  | [d] => { results := [.lit (.bool false)], args := [d] }
  | _ => none }
def FnRepairWrongFalsely : Prop := fnRepairRow.holds Tryz.pinned (OpenSpec.ofChange fnRepairWrong)

/- THE SECOND FORM. 'bulk': how many values and letters a reading holds, each counted each time it is reached (what is shared counts as often as it is met; a slice's spare places count too). A statement '..UptoSaid' is the law's where the arguments, and the package variables that the reading takes, are together of bulk at most 1048576: NARROWER than '..Said'. Prove '..Said' where nothing that the law and all that it calls make is longer than what came in: it says more and counts as full. Else prove '..UptoSaid'. A law counts once. -/
mutual
def uptoBulk {H : Type} : DataW H → Nat
  | .lit (.string bytes) => bytes.length + 1
  | .lit _ => 1
  | .nil => 1
  | .ptr d => uptoBulk d + 1
  | .slice elems spare => uptoBulkAll elems + uptoBulkAll spare + 1
  | .agg parts => uptoBulkAll parts + 1
  | .iface _ d => uptoBulk d + 1
  | .map entries => uptoBulkEntries entries + 1
  | .held _ => 1
def uptoBulkAll {H : Type} : List (DataW H) → Nat
  | [] => 0
  | d :: r => uptoBulk d + uptoBulkAll r
def uptoBulkEntries {H : Type} : List (Lit × DataW H) → Nat
  | [] => 0
  | x :: r => uptoBulkEntry x + uptoBulkEntries r
def uptoBulkEntry {H : Type} : Lit × DataW H → Nat
  | (.string bytes, d) => bytes.length + uptoBulk d + 1
  | (_, d) => uptoBulk d + 1
 end
def uptoSmall : (H : Type) → List (DataW H) → Bool := fun _ ds => decide (uptoBulkAll ds ≤ 1048576)
def OpenSpec.upto (s : _root_.Go.ChangeSpec) : _root_.Go.OpenSpec := { _root_.Go.OpenSpec.ofChange s with cond := some uptoSmall }

/-- 'laws.FnSeparation', WHERE WHAT IT READS IS OF BULK AT MOST 1048576: true; the input reads as it did. -/
def fnSeparationUptoRow : OpenClaim := { program := "ytkaclgdhlpphhaagreat", sum := "3a3be881f50fbef4b3b99ead76a60b81234714678ae9d4934e8b5b0ec91c4043", func := "loop.example/g00811/laws.FnSeparation", spec := "fnSeparation", unfollowed := true, recurses := true, apart := false, narrowed := true }
def FnSeparationUptoSaid : Prop := fnSeparationUptoRow.holds Tryz.pinned (OpenSpec.upto fnSeparationSpec)

/-- 'laws.FnTop', WHERE WHAT IT READS IS OF BULK AT MOST 1048576: true; the input reads as it did. -/
def fnTopUptoRow : OpenClaim := { program := "ytkaclgdhlpphhaagreat", sum := "3a3be881f50fbef4b3b99ead76a60b81234714678ae9d4934e8b5b0ec91c4043", func := "loop.example/g00811/laws.FnTop", spec := "fnTop", unfollowed := true, recurses := true, apart := false, narrowed := true }
def FnTopUptoSaid : Prop := fnTopUptoRow.holds Tryz.pinned (OpenSpec.upto fnTopSpec)

/-- 'laws.FnShorten', WHERE WHAT IT READS IS OF BULK AT MOST 1048576: true; the input reads as it did. -/
def fnShortenUptoRow : OpenClaim := { program := "ytkaclgdhlpphhaagreat", sum := "3a3be881f50fbef4b3b99ead76a60b81234714678ae9d4934e8b5b0ec91c4043", func := "loop.example/g00811/laws.FnShorten", spec := "fnShorten", unfollowed := true, recurses := true, apart := false, narrowed := true }
def FnShortenUptoSaid : Prop := fnShortenUptoRow.holds Tryz.pinned (OpenSpec.upto fnShortenSpec)

/-- 'laws.FnStops', WHERE WHAT IT READS IS OF BULK AT MOST 1048576: true; the input reads as it did. -/
def fnStopsUptoRow : OpenClaim := { program := "ytkaclgdhlpphhaagreat", sum := "3a3be881f50fbef4b3b99ead76a60b81234714678ae9d4934e8b5b0ec91c4043", func := "loop.example/g00811/laws.FnStops", spec := "fnStops", unfollowed := true, recurses := true, apart := false, narrowed := true }
def FnStopsUptoSaid : Prop := fnStopsUptoRow.holds Tryz.pinned (OpenSpec.upto fnStopsSpec)

/-- 'laws.FnContinue', WHERE WHAT IT READS IS OF BULK AT MOST 1048576: true; the input reads as it did. -/
def fnContinueUptoRow : OpenClaim := { program := "ytkaclgdhlpphhaagreat", sum := "3a3be881f50fbef4b3b99ead76a60b81234714678ae9d4934e8b5b0ec91c4043", func := "loop.example/g00811/laws.FnContinue", spec := "fnContinue", unfollowed := true, recurses := true, apart := false, narrowed := true }
def FnContinueUptoSaid : Prop := fnContinueUptoRow.holds Tryz.pinned (OpenSpec.upto fnContinueSpec)

/-- 'laws.FnReverse', WHERE WHAT IT READS IS OF BULK AT MOST 1048576: true; the input reads as it did. -/
def fnReverseUptoRow : OpenClaim := { program := "ytkaclgdhlpphhaagreat", sum := "3a3be881f50fbef4b3b99ead76a60b81234714678ae9d4934e8b5b0ec91c4043", func := "loop.example/g00811/laws.FnReverse", spec := "fnReverse", unfollowed := true, recurses := true, apart := false, narrowed := true }
def FnReverseUptoSaid : Prop := fnReverseUptoRow.holds Tryz.pinned (OpenSpec.upto fnReverseSpec)

/-- 'laws.FnRepair', WHERE WHAT IT READS IS OF BULK AT MOST 1048576: true; the input reads as it did. -/
def fnRepairUptoRow : OpenClaim := { program := "ytkaclgdhlpphhaagreat", sum := "3a3be881f50fbef4b3b99ead76a60b81234714678ae9d4934e8b5b0ec91c4043", func := "loop.example/g00811/laws.FnRepair", spec := "fnRepair", unfollowed := true, recurses := true, apart := false, narrowed := true }
def FnRepairUptoSaid : Prop := fnRepairUptoRow.holds Tryz.pinned (OpenSpec.upto fnRepairSpec)

end Rows
end Go.Proofs.YtkaclgdhlpphhaaGreat
