/-
  The arguments' types of this program, opened to this family's predicates.
-/
import Derived.Test.YtjkbecgenjhaaaaRows
import Derived.Test.YtjkbecgenjhaaaaOpen
import Derived.Test.YtjkbecgenjhaaaaData
namespace Go.Proofs.Ytjkbecgenjhaaaa
open Go.RowKit
section
variable {H : Type} {enc : TypeId × Value → H} {w : World}
theorem oInt : Opens enc Try.prog w 3 Rp.int := Opens.int Try.underlying3
theorem oBool : Opens enc Try.prog w 4 Rp.bool := Opens.bool Try.underlying4
theorem oIntS : Opens enc Try.prog w 30 RIntS := Opens.slice Try.underlying30 (by kernel_rfl) oInt
theorem oBigInt : Opens enc Try.prog w 40 RBigInt := Opens.prod Try.underlying40 rfl rfl (by kernel_rfl) (by kernel_rfl) (by kernel_rfl) oBool oIntS
theorem oRat : Opens enc Try.prog w 42 RRat := Opens.prod Try.underlying42 rfl rfl (by kernel_rfl) (by kernel_rfl) (by kernel_rfl) oBigInt oIntS
theorem oPoint : Opens enc Try.prog w 44 RPoint := Opens.prod Try.underlying44 rfl rfl (by kernel_rfl) (by kernel_rfl) (by kernel_rfl) oRat oRat
theorem oStep : Opens enc Try.prog w 78 RStep := Opens.prod Try.underlying78 rfl rfl (by kernel_rfl) (by kernel_rfl) (by kernel_rfl) oInt oPoint
theorem oStepS : Opens enc Try.prog w 22 RStepS := Opens.slice Try.underlying22 (by kernel_rfl) oStep
theorem oPlacement : Opens enc Try.prog w 46 RPlacement := Opens.prod Try.underlying46 rfl rfl (by kernel_rfl) (by kernel_rfl) (by kernel_rfl) oInt oPoint
theorem oRatS : Opens enc Try.prog w 61 RRatS := Opens.slice Try.underlying61 (by kernel_rfl) oRat
end
end Go.Proofs.Ytjkbecgenjhaaaa
