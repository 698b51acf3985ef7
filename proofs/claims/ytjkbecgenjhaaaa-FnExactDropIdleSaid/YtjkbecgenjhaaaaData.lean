import Derived.Test.YtjkbecgenjhaaaaProg
import Derived.Test.YtjkbecgenjhaaaaMem
namespace Go.Proofs.Ytjkbecgenjhaaaa
open Go.RowKit

abbrev DIntS := List Int
abbrev RIntS : Rp DIntS := Rp.slice Rp.int (by decide)
abbrev DBigInt := Bool × DIntS
abbrev RBigInt : Rp DBigInt := Rp.prod Rp.bool RIntS
abbrev DRat := DBigInt × DIntS
abbrev RRat : Rp DRat := Rp.prod RBigInt RIntS
abbrev DRatS := List DRat
abbrev RRatS : Rp DRatS := Rp.slice RRat (by decide)
abbrev DPoint := DRat × DRat
abbrev RPoint : Rp DPoint := Rp.prod RRat RRat
abbrev DStep := Int × DPoint
abbrev RStep : Rp DStep := Rp.prod Rp.int RPoint
abbrev DStepS := List DStep
abbrev RStepS : Rp DStepS := Rp.slice RStep (by decide)
abbrev DPointS := List DPoint
abbrev RPointS : Rp DPointS := Rp.slice RPoint (by decide)
abbrev DPlacement := Int × DPoint
abbrev RPlacement : Rp DPlacement := Rp.prod Rp.int RPoint
theorem list1 {α : Type} {l : List α} (h : l.length = 1) : ∃ c0, l = [c0] := by
  match l, h with
  | [c0], _ => exact ⟨c0, rfl⟩
theorem list2 {α : Type} {l : List α} (h : l.length = 2) : ∃ c0 c1, l = [c0, c1] := by
  match l, h with
  | [c0, c1], _ => exact ⟨c0, c1, rfl⟩
theorem list3 {α : Type} {l : List α} (h : l.length = 3) : ∃ c0 c1 c2, l = [c0, c1, c2] := by
  match l, h with
  | [c0, c1, c2], _ => exact ⟨c0, c1, c2, rfl⟩
theorem list6 {α : Type} {l : List α} (h : l.length = 6) : ∃ c0 c1 c2 c3 c4 c5, l = [c0, c1, c2, c3, c4, c5] := by
  match l, h with
  | [c0, c1, c2, c3, c4, c5], _ => exact ⟨c0, c1, c2, c3, c4, c5, rfl⟩
theorem list7 {α : Type} {l : List α} (h : l.length = 7) : ∃ c0 c1 c2 c3 c4 c5 c6, l = [c0, c1, c2, c3, c4, c5, c6] := by
  match l, h with
  | [c0, c1, c2, c3, c4, c5, c6], _ => exact ⟨c0, c1, c2, c3, c4, c5, c6, rfl⟩
def tBigInt (x : DBigInt) : Nat := x.2.length
def tRat (x : DRat) : Nat := tBigInt x.1 + x.2.length
def tRatS : DRatS → Nat
  | [] => 0
  | x :: l => tRat x + tRatS l
theorem tRatS_snoc (l : DRatS) (x : DRat) : tRatS (l ++ [x]) = tRatS l + tRat x := by
  induction l with
  | nil => simp [tRatS]
  | cons y l ih => simp [tRatS, ih]; omega
theorem tRatS_take (l : DRatS) (k : Nat) : tRatS (l.take k) ≤ tRatS l := by
  induction l generalizing k with
  | nil => simp [tRatS]
  | cons y l ih => cases k with
    | zero => simp [tRatS]
    | succ k => have := ih k; simp [tRatS]; omega
def tPoint (x : DPoint) : Nat := tRat x.1 + tRat x.2
def tPointS : DPointS → Nat
  | [] => 0
  | x :: l => tPoint x + tPointS l
theorem tPointS_snoc (l : DPointS) (x : DPoint) : tPointS (l ++ [x]) = tPointS l + tPoint x := by
  induction l with
  | nil => simp [tPointS]
  | cons y l ih => simp [tPointS, ih]; omega
theorem tPointS_take (l : DPointS) (k : Nat) : tPointS (l.take k) ≤ tPointS l := by
  induction l generalizing k with
  | nil => simp [tPointS]
  | cons y l ih => cases k with
    | zero => simp [tPointS]
    | succ k => have := ih k; simp [tPointS]; omega
def tPlacement (x : DPlacement) : Nat := tPoint x.2
def tStep (x : DStep) : Nat := tPoint x.2
def tStepS : DStepS → Nat
  | [] => 0
  | x :: l => tStep x + tStepS l
theorem tStepS_snoc (l : DStepS) (x : DStep) : tStepS (l ++ [x]) = tStepS l + tStep x := by
  induction l with
  | nil => simp [tStepS]
  | cons y l ih => simp [tStepS, ih]; omega
theorem tStepS_take (l : DStepS) (k : Nat) : tStepS (l.take k) ≤ tStepS l := by
  induction l generalizing k with
  | nil => simp [tStepS]
  | cons y l ih => cases k with
    | zero => simp [tStepS]
    | succ k => have := ih k; simp [tStepS]; omega
def mkIntS (l : DIntS) (k : Int) : DIntS := (List.range l.length).map fun i => k + (i : Nat)
def cnBigInt (x : DBigInt) : Nat := x.2.length
def mkBigInt (x : DBigInt) (k : Int) : DBigInt := (x.1, mkIntS x.2 k)
def ecBigInt (x : DBigInt) : Nat := 1 + x.2.length
def emBigInt (x : DBigInt) (k : Int) : DBigInt := ((k % 3 == 0), mkIntS x.2 (k + 1))
def cnRat (x : DRat) : Nat := cnBigInt x.1 + x.2.length
def mkRat (x : DRat) (k : Int) : DRat := (mkBigInt x.1 k, mkIntS x.2 (k + cnBigInt x.1))
def ecRat (x : DRat) : Nat := ecBigInt x.1 + x.2.length
def emRat (x : DRat) (k : Int) : DRat := (emBigInt x.1 k, mkIntS x.2 (k + ecBigInt x.1))
def cnRatS : DRatS → Nat
  | [] => 0
  | x :: l => ecRat x + cnRatS l
theorem cnRatS_snoc (l : DRatS) (x : DRat) : cnRatS (l ++ [x]) = cnRatS l + ecRat x := by
  induction l with
  | nil => simp [cnRatS]
  | cons y l ih => simp [cnRatS, ih]; omega
theorem cnRatS_take (l : DRatS) (k : Nat) : cnRatS (l.take k) ≤ cnRatS l := by
  induction l generalizing k with
  | nil => simp [cnRatS]
  | cons y l ih => cases k with
    | zero => simp [cnRatS]
    | succ k => have := ih k; simp [cnRatS]; omega
def mkRatS : DRatS → Int → DRatS
  | [], _ => []
  | x :: l, k => emRat x k :: mkRatS l (k + ecRat x)
theorem mkRatS_len (l : DRatS) (k : Int) : (mkRatS l k).length = l.length := by
  induction l generalizing k with
  | nil => rfl
  | cons y l ih => simp [mkRatS, ih]
theorem mkRatS_snoc (l : DRatS) (x : DRat) (k : Int) : mkRatS (l ++ [x]) k = mkRatS l k ++ [emRat x (k + cnRatS l)] := by
  induction l generalizing k with
  | nil => simp [mkRatS, cnRatS]
  | cons y l ih => simp only [List.cons_append, mkRatS, ih, cnRatS]; rw [show k + (ecRat y : Int) + (cnRatS l : Int) = k + ((ecRat y + cnRatS l : Nat) : Int) from by omega]
def cnPoint (x : DPoint) : Nat := cnRat x.1 + cnRat x.2
def mkPoint (x : DPoint) (k : Int) : DPoint := (mkRat x.1 k, mkRat x.2 (k + cnRat x.1))
def ecPoint (x : DPoint) : Nat := ecRat x.1 + ecRat x.2
def emPoint (x : DPoint) (k : Int) : DPoint := (emRat x.1 k, emRat x.2 (k + ecRat x.1))
def cnPointS : DPointS → Nat
  | [] => 0
  | x :: l => ecPoint x + cnPointS l
theorem cnPointS_snoc (l : DPointS) (x : DPoint) : cnPointS (l ++ [x]) = cnPointS l + ecPoint x := by
  induction l with
  | nil => simp [cnPointS]
  | cons y l ih => simp [cnPointS, ih]; omega
theorem cnPointS_take (l : DPointS) (k : Nat) : cnPointS (l.take k) ≤ cnPointS l := by
  induction l generalizing k with
  | nil => simp [cnPointS]
  | cons y l ih => cases k with
    | zero => simp [cnPointS]
    | succ k => have := ih k; simp [cnPointS]; omega
def mkPointS : DPointS → Int → DPointS
  | [], _ => []
  | x :: l, k => emPoint x k :: mkPointS l (k + ecPoint x)
theorem mkPointS_len (l : DPointS) (k : Int) : (mkPointS l k).length = l.length := by
  induction l generalizing k with
  | nil => rfl
  | cons y l ih => simp [mkPointS, ih]
theorem mkPointS_snoc (l : DPointS) (x : DPoint) (k : Int) : mkPointS (l ++ [x]) k = mkPointS l k ++ [emPoint x (k + cnPointS l)] := by
  induction l generalizing k with
  | nil => simp [mkPointS, cnPointS]
  | cons y l ih => simp only [List.cons_append, mkPointS, ih, cnPointS]; rw [show k + (ecPoint y : Int) + (cnPointS l : Int) = k + ((ecPoint y + cnPointS l : Nat) : Int) from by omega]
def cnPlacement (x : DPlacement) : Nat := cnPoint x.2
def mkPlacement (x : DPlacement) (k : Int) : DPlacement := (x.1, mkPoint x.2 k)
def ecPlacement (x : DPlacement) : Nat := 1 + ecPoint x.2
def emPlacement (x : DPlacement) (k : Int) : DPlacement := (k, emPoint x.2 (k + 1))
def cnStep (x : DStep) : Nat := cnPoint x.2
def mkStep (x : DStep) (k : Int) : DStep := (x.1, mkPoint x.2 k)
def ecStep (x : DStep) : Nat := 1 + ecPoint x.2
def emStep (x : DStep) (k : Int) : DStep := (k, emPoint x.2 (k + 1))
def cnStepS : DStepS → Nat
  | [] => 0
  | x :: l => ecStep x + cnStepS l
theorem cnStepS_snoc (l : DStepS) (x : DStep) : cnStepS (l ++ [x]) = cnStepS l + ecStep x := by
  induction l with
  | nil => simp [cnStepS]
  | cons y l ih => simp [cnStepS, ih]; omega
theorem cnStepS_take (l : DStepS) (k : Nat) : cnStepS (l.take k) ≤ cnStepS l := by
  induction l generalizing k with
  | nil => simp [cnStepS]
  | cons y l ih => cases k with
    | zero => simp [cnStepS]
    | succ k => have := ih k; simp [cnStepS]; omega
def mkStepS : DStepS → Int → DStepS
  | [], _ => []
  | x :: l, k => emStep x k :: mkStepS l (k + ecStep x)
theorem mkStepS_len (l : DStepS) (k : Int) : (mkStepS l k).length = l.length := by
  induction l generalizing k with
  | nil => rfl
  | cons y l ih => simp [mkStepS, ih]
theorem mkStepS_snoc (l : DStepS) (x : DStep) (k : Int) : mkStepS (l ++ [x]) k = mkStepS l k ++ [emStep x (k + cnStepS l)] := by
  induction l generalizing k with
  | nil => simp [mkStepS, cnStepS]
  | cons y l ih => simp only [List.cons_append, mkStepS, ih, cnStepS]; rw [show k + (ecStep y : Int) + (cnStepS l : Int) = k + ((ecStep y + cnStepS l : Nat) : Int) from by omega]
theorem mkRatS_get (l : DRatS) (k : Int) (j : Nat) (x : DRat) (h : l[j]? = some x) : (mkRatS l k)[j]? = some (emRat x (k + (cnRatS (l.take j) : Nat))) := by
  induction l generalizing k j with
  | nil => simp at h
  | cons y l ih => cases j with
    | zero => simp at h; subst h; simp [mkRatS, cnRatS]
    | succ j => simp at h; simp only [mkRatS, List.getElem?_cons_succ, List.take_succ_cons, cnRatS]; rw [ih _ j h, show k + (ecRat y : Int) + ((cnRatS (l.take j) : Nat) : Int) = k + ((ecRat y + cnRatS (l.take j) : Nat) : Int) from by omega]
theorem mkPointS_get (l : DPointS) (k : Int) (j : Nat) (x : DPoint) (h : l[j]? = some x) : (mkPointS l k)[j]? = some (emPoint x (k + (cnPointS (l.take j) : Nat))) := by
  induction l generalizing k j with
  | nil => simp at h
  | cons y l ih => cases j with
    | zero => simp at h; subst h; simp [mkPointS, cnPointS]
    | succ j => simp at h; simp only [mkPointS, List.getElem?_cons_succ, List.take_succ_cons, cnPointS]; rw [ih _ j h, show k + (ecPoint y : Int) + ((cnPointS (l.take j) : Nat) : Int) = k + ((ecPoint y + cnPointS (l.take j) : Nat) : Int) from by omega]
theorem mkStepS_get (l : DStepS) (k : Int) (j : Nat) (x : DStep) (h : l[j]? = some x) : (mkStepS l k)[j]? = some (emStep x (k + (cnStepS (l.take j) : Nat))) := by
  induction l generalizing k j with
  | nil => simp at h
  | cons y l ih => cases j with
    | zero => simp at h; subst h; simp [mkStepS, cnStepS]
    | succ j => simp at h; simp only [mkStepS, List.getElem?_cons_succ, List.take_succ_cons, cnStepS]; rw [ih _ j h, show k + (ecStep y : Int) + ((cnStepS (l.take j) : Nat) : Int) = k + ((ecStep y + cnStepS (l.take j) : Nat) : Int) from by omega]
end Go.Proofs.Ytjkbecgenjhaaaa
