/-
  How many marks the data take: a bound by what the laws measure.
-/
import Derived.Test.YtjkbecgenjhaaaaData
namespace Go.Proofs.Ytjkbecgenjhaaaa
open Go.RowKit in
theorem Has.of {α : Type} {A : Rp α} {w : World} {cs : List Value} {a : α} {fp : List Nat} (h : A.rep w cs a fp) : Has A w cs a := ⟨fp, h⟩
theorem cnStepS_eq (l : DStepS) : cnStepS l = 3 * l.length + tStepS l := by
  induction l with
  | nil => rfl
  | cons x l ih =>
    simp only [cnStepS, tStepS, List.length_cons, ih]
    simp only [ecStep, ecPoint, ecRat, ecBigInt, tStep, tPoint, tRat, tBigInt]
    omega
theorem cnStepS_le (l : DStepS) : cnStepS l ≤ 3 * (l.length + tStepS l) := by have := cnStepS_eq l; omega
theorem cnRatS_eq (l : DRatS) : cnRatS l = l.length + tRatS l := by
  induction l with
  | nil => rfl
  | cons x l ih =>
    simp only [cnRatS, tRatS, List.length_cons, ih]
    simp only [ecRat, ecBigInt, tRat, tBigInt]
    omega
theorem cnRatS_le (l : DRatS) : cnRatS l ≤ 3 * (l.length + tRatS l) := by have := cnRatS_eq l; omega
theorem cnPoint_le (x : DPoint) : cnPoint x ≤ 3 * tPoint x := by simp only [cnPoint, cnRat, cnBigInt, tPoint, tRat, tBigInt]; omega
theorem cnPlacement_le (x : DPlacement) : cnPlacement x ≤ 3 * tPlacement x := cnPoint_le x.2
theorem cnRat_le (x : DRat) : cnRat x ≤ 3 * tRat x := by simp only [cnRat, cnBigInt, tRat, tBigInt]; omega
theorem cnBigInt_le (x : DBigInt) : cnBigInt x ≤ 3 * tBigInt x := by simp only [cnBigInt, tBigInt]; omega
end Go.Proofs.Ytjkbecgenjhaaaa
