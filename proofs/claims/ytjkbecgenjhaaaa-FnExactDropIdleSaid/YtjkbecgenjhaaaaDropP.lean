/-
  DropIdle's two contracts, of a placement given whole.
-/
import Derived.Test.YtjkbecgenjhaaaaDropI
namespace Go.Proofs.Ytjkbecgenjhaaaa
open Go.RowKit
theorem specDropIdle_pl (c0 c1 c2 c3 c4 c5 c6 v : Value) (p : DPlacement) (l : DStepS) (w : World) (hp : Has RPlacement w [c0, c1, c2, c3, c4, c5, c6] p) (hl : Has RStepS w [v] l) (hs : l.length + tStepS l ≤ 1048576) :
    Calls Try.prog 27 #[.agg #[c0, c1, c2, c3, c4, c5, c6], v] w (Post (fun v w' => Has RStepS w' [v] (dropAll p.2 l).2 ∧ Below w.heap.size w w')) := by
  obtain ⟨h0, h1⟩ := hp.split [c0] [c1, c2, c3, c4, c5, c6] rfl
  obtain ⟨rfl, _⟩ := h0.int
  exact specDropIdle_any p.1 c1 c2 c3 c4 c5 c6 v p.2 l w h1 hl (by omega) (by omega)
theorem implDropIdle_pl (c0 c1 c2 c3 c4 c5 c6 v : Value) (p : DPlacement) (l : DStepS) (w : World) (hp : Has RPlacement w [c0, c1, c2, c3, c4, c5, c6] p) (hl : Has RStepS w [v] l) (hs : l.length + tStepS l ≤ 1048576) :
    Calls Try.prog 29 #[.agg #[c0, c1, c2, c3, c4, c5, c6], v] w (Post (Own1Post RStepS (dropAll p.2 l).2 w)) := by
  obtain ⟨h0, h1⟩ := hp.split [c0] [c1, c2, c3, c4, c5, c6] rfl
  obtain ⟨rfl, _⟩ := h0.int
  exact implDropIdle_any p.1 c1 c2 c3 c4 c5 c6 v p.2 l w h1 hl (by omega) (by omega)
end Go.Proofs.Ytjkbecgenjhaaaa
