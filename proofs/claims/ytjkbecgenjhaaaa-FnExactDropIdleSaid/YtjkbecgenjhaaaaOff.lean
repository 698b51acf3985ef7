/-
  Slices that are built beside a variable of the call's own: no element's memory lies in that variable's block. No program here. And what DropIdle computes.
-/
import Derived.Test.YtjkbecgenjhaaaaPush
namespace Go.Proofs.Ytjkbecgenjhaaaa
open Go.RowKit
/-- A, and none of its memory lies in block K. -/
def Rp.off {α : Type} (A : Rp α) (K : Nat) : Rp α where
  size := A.size
  rep w cs a fp := A.rep w cs a fp ∧ ∀ b ∈ fp, b ≠ K
  len h := A.len h.1
  lt h := A.lt h.1
  frame h hf := ⟨A.frame h.1 hf, h.2⟩
  one h := A.one h.1
section
variable {α : Type} {A : Rp α} {ow : Bool} {base n0 lo K : Nat} {w w' w00 : World} {e : TypeId} {v : Value} {l : List α} {cs : List Value} {x : α}
theorem Arg.oldOff (h : Has A w00 cs x) (hb : Below w00.heap.size w00 w) (hK : w00.heap.size ≤ K) (hB : w00.heap.size ≤ base) : Arg (A.off K) false base n0 w cs x :=
  let ⟨fx, hr⟩ := h; ⟨fx, ⟨A.frame hr fun b hb' => hb.block b (A.lt hr b hb'), fun b hb' => by have := A.lt hr b hb'; omega⟩, fun b hb' => .inl (by have := A.lt hr b hb'; omega), fun h => by cases h⟩
theorem Arg.newOff (h : New A lo w cs x) (hn : n0 ≤ lo) (hK : K < lo) : Arg (A.off K) false base n0 w cs x :=
  let ⟨fx, hr, ho⟩ := h; ⟨fx, ⟨hr, fun b hb => by have := ho b hb; omega⟩, fun b hb => .inr (Nat.le_trans hn (ho b hb)), fun h => by cases h⟩
theorem Grow.forget (h : Grow (A.off K) ow base w e v l) : Grow A ow base w e v l := by
  obtain ⟨xs, fps, ho, hl, he, hne, hn⟩ := h
  exact ⟨xs, fps, ho, hl, fun i x hx => by obtain ⟨f, cs, h1, h2, h3⟩ := he i x hx; exact ⟨f, cs, h1, h2.1, h3⟩, hne, hn⟩
theorem Grow.setOff (h : Grow (A.off K) false base w e v l) (hK : K < base) {p : Addr} (hp : p.block = K) (u : Value) : Grow (A.off K) false base (w.setCell p u) e v l := by
  have hb : ∀ b, b ≠ K → (w.setCell p u).heap[b]? = w.heap[b]? := fun b hb => Below.heap_setCell _ _ _ _ (by omega)
  have hg : w.grownBy (w.setCell p u) (some K) := ⟨rfl, rfl, rfl, by simp, fun k _ hne => hb k (fun e => hne (by rw [e]))⟩
  obtain ⟨xs, fps, ho, hl, he, hne, hn⟩ := h
  refine ⟨xs, fps, ho.kept hg ?_, hl, fun i x hx => ?_, hne, fun h => by cases h⟩
  · cases hv : v.ownBlock with
    | none => exact .inl rfl
    | some g => exact .inr (by have := (ho.lt g hv).1; intro e; injection e with e; omega)
  · obtain ⟨f, cs, h1, h2, h3⟩ := he i x hx
    exact ⟨f, cs, h1, (A.off K).frame h2 fun b hb' => hb b (h2.2 b hb'), h3⟩
theorem Grow.offNil (A : Rp α) (K : Nat) (w : World) (e : TypeId) {base : Nat} (hb : base ≤ w.heap.size) : Grow (A.off K) false base (w.alloc (.cells #[] e)) e (.slice (some ⟨w.heap.size, 0, none⟩) 0 0) [] := Grow.lit (A.off K) false w e hb
end

/-- Seven cells of a variable are stored, one by one. -/
theorem set7_cells {w : World} {B : Nat} {u0 u1 u2 u3 u4 u5 u6 : Value} (v0 v1 v2 v3 v4 v5 v6 : Value) (h0 : w.cell? ⟨B, 0, none⟩ = some u0) (h1 : w.cell? ⟨B, 1, none⟩ = some u1) (h2 : w.cell? ⟨B, 2, none⟩ = some u2) (h3 : w.cell? ⟨B, 3, none⟩ = some u3) (h4 : w.cell? ⟨B, 4, none⟩ = some u4) (h5 : w.cell? ⟨B, 5, none⟩ = some u5) (h6 : w.cell? ⟨B, 6, none⟩ = some u6) :
    (((((((w.setCell ⟨B, 0, none⟩ v0).setCell ⟨B, 1, none⟩ v1).setCell ⟨B, 2, none⟩ v2).setCell ⟨B, 3, none⟩ v3).setCell ⟨B, 4, none⟩ v4).setCell ⟨B, 5, none⟩ v5).setCell ⟨B, 6, none⟩ v6).cell? ⟨B, 0, none⟩ = some v0 ∧ (((((((w.setCell ⟨B, 0, none⟩ v0).setCell ⟨B, 1, none⟩ v1).setCell ⟨B, 2, none⟩ v2).setCell ⟨B, 3, none⟩ v3).setCell ⟨B, 4, none⟩ v4).setCell ⟨B, 5, none⟩ v5).setCell ⟨B, 6, none⟩ v6).cell? ⟨B, 1, none⟩ = some v1 ∧ (((((((w.setCell ⟨B, 0, none⟩ v0).setCell ⟨B, 1, none⟩ v1).setCell ⟨B, 2, none⟩ v2).setCell ⟨B, 3, none⟩ v3).setCell ⟨B, 4, none⟩ v4).setCell ⟨B, 5, none⟩ v5).setCell ⟨B, 6, none⟩ v6).cell? ⟨B, 2, none⟩ = some v2 ∧ (((((((w.setCell ⟨B, 0, none⟩ v0).setCell ⟨B, 1, none⟩ v1).setCell ⟨B, 2, none⟩ v2).setCell ⟨B, 3, none⟩ v3).setCell ⟨B, 4, none⟩ v4).setCell ⟨B, 5, none⟩ v5).setCell ⟨B, 6, none⟩ v6).cell? ⟨B, 3, none⟩ = some v3 ∧ (((((((w.setCell ⟨B, 0, none⟩ v0).setCell ⟨B, 1, none⟩ v1).setCell ⟨B, 2, none⟩ v2).setCell ⟨B, 3, none⟩ v3).setCell ⟨B, 4, none⟩ v4).setCell ⟨B, 5, none⟩ v5).setCell ⟨B, 6, none⟩ v6).cell? ⟨B, 4, none⟩ = some v4 ∧ (((((((w.setCell ⟨B, 0, none⟩ v0).setCell ⟨B, 1, none⟩ v1).setCell ⟨B, 2, none⟩ v2).setCell ⟨B, 3, none⟩ v3).setCell ⟨B, 4, none⟩ v4).setCell ⟨B, 5, none⟩ v5).setCell ⟨B, 6, none⟩ v6).cell? ⟨B, 5, none⟩ = some v5 ∧ (((((((w.setCell ⟨B, 0, none⟩ v0).setCell ⟨B, 1, none⟩ v1).setCell ⟨B, 2, none⟩ v2).setCell ⟨B, 3, none⟩ v3).setCell ⟨B, 4, none⟩ v4).setCell ⟨B, 5, none⟩ v5).setCell ⟨B, 6, none⟩ v6).cell? ⟨B, 6, none⟩ = some v6 := by
  refine ⟨?_, ?_, ?_, ?_, ?_, ?_, ?_⟩ <;> simp [go_sem, h0, h1, h2, h3, h4, h5, h6]
theorem set7_frozen {w : World} {B : Nat} (v0 v1 v2 v3 v4 v5 v6 : Value) (h : ∀ o, w.frozen? ⟨B, o, none⟩ = false) : ∀ o, (((((((w.setCell ⟨B, 0, none⟩ v0).setCell ⟨B, 1, none⟩ v1).setCell ⟨B, 2, none⟩ v2).setCell ⟨B, 3, none⟩ v3).setCell ⟨B, 4, none⟩ v4).setCell ⟨B, 5, none⟩ v5).setCell ⟨B, 6, none⟩ v6).frozen? ⟨B, o, none⟩ = false := by
  intro o; simp [go_sem, h]
theorem set7_below {w0 w : World} {n B : Nat} (v0 v1 v2 v3 v4 v5 v6 : Value) (h : Below n w0 w) (hB : n ≤ B) : Below n w0 (((((((w.setCell ⟨B, 0, none⟩ v0).setCell ⟨B, 1, none⟩ v1).setCell ⟨B, 2, none⟩ v2).setCell ⟨B, 3, none⟩ v3).setCell ⟨B, 4, none⟩ v4).setCell ⟨B, 5, none⟩ v5).setCell ⟨B, 6, none⟩ v6) :=
  (((((((h.setCell (p := ⟨B, 0, none⟩) hB v0).setCell (p := ⟨B, 1, none⟩) hB v1).setCell (p := ⟨B, 2, none⟩) hB v2).setCell (p := ⟨B, 3, none⟩) hB v3).setCell (p := ⟨B, 4, none⟩) hB v4).setCell (p := ⟨B, 5, none⟩) hB v5).setCell (p := ⟨B, 6, none⟩) hB v6)
theorem set7_grow {α : Type} {A : Rp α} {base K : Nat} {w : World} {e : TypeId} {v : Value} {l : List α} (v0 v1 v2 v3 v4 v5 v6 : Value) (h : Grow (A.off K) false base w e v l) (hK : K < base) : Grow (A.off K) false base (((((((w.setCell ⟨K, 0, none⟩ v0).setCell ⟨K, 1, none⟩ v1).setCell ⟨K, 2, none⟩ v2).setCell ⟨K, 3, none⟩ v3).setCell ⟨K, 4, none⟩ v4).setCell ⟨K, 5, none⟩ v5).setCell ⟨K, 6, none⟩ v6) e v l :=
  (Grow.setOff (Grow.setOff (Grow.setOff (Grow.setOff (Grow.setOff (Grow.setOff (Grow.setOff h hK (p := ⟨K, 0, none⟩) rfl v0) hK (p := ⟨K, 1, none⟩) rfl v1) hK (p := ⟨K, 2, none⟩) rfl v2) hK (p := ⟨K, 3, none⟩) rfl v3) hK (p := ⟨K, 4, none⟩) rfl v4) hK (p := ⟨K, 5, none⟩) rfl v5) hK (p := ⟨K, 6, none⟩) rfl v6)

/-- What DropIdle does with one step: where the robot stands, and what is kept. -/
def dropS (s : DPoint × DStepS) (x : DStep) : DPoint × DStepS := (if x.1 = 0 then x.2 else s.1, if x.1 = 0 ∧ x.2 = s.1 then s.2 else s.2 ++ [x])
def dropAll (p : DPoint) (l : DStepS) : DPoint × DStepS := l.foldl dropS (p, [])
theorem dropAll_snoc (p : DPoint) (l : DStepS) (x : DStep) : dropAll p (l ++ [x]) = dropS (dropAll p l) x := by unfold dropAll; rw [List.foldl_append]; rfl
theorem dropS_len (l : DStepS) (s : DPoint × DStepS) : (l.foldl dropS s).2.length ≤ s.2.length + l.length := by
  induction l generalizing s with
  | nil => simp
  | cons x l ih =>
    refine Nat.le_trans (ih (dropS s x)) ?_
    have h2 : (dropS s x).2.length ≤ s.2.length + 1 := by
      by_cases h : x.1 = 0 ∧ x.2 = s.1 <;> simp only [dropS, h, if_true, if_false, and_self] <;> simp
    simp; omega
theorem dropAll_len (p : DPoint) (l : DStepS) : (dropAll p l).2.length ≤ l.length := by have := dropS_len l (p, []); simpa [dropAll] using this
theorem dropS_t (l : DStepS) (s : DPoint × DStepS) : tStepS (l.foldl dropS s).2 ≤ tStepS s.2 + tStepS l := by
  induction l generalizing s with
  | nil => simp
  | cons x l ih =>
    refine Nat.le_trans (ih (dropS s x)) ?_
    have h2 : tStepS (dropS s x).2 ≤ tStepS s.2 + tStep x := by
      by_cases h : x.1 = 0 ∧ x.2 = s.1
      · simp only [dropS, h, if_true, and_self]; omega
      · simp only [dropS, h, if_false, tStepS_snoc]; omega
    simp only [tStepS]; omega
theorem dropAll_t (p : DPoint) (l : DStepS) : tStepS (dropAll p l).2 ≤ tStepS l := by have := dropS_t l (p, []); simpa [dropAll, tStepS] using this
theorem dropAll_idle {p : DPoint} {l : DStepS} {x : DStep} {pp : DPoint} {ol : DStepS} (h : dropAll p l = (pp, ol)) (h0 : x.1 = 0) (h1 : x.2 = pp) : dropAll p (l ++ [x]) = (pp, ol) := by
  rw [dropAll_snoc, h]; unfold dropS; simp [h0, h1]
theorem dropAll_move {p : DPoint} {l : DStepS} {x : DStep} {pp : DPoint} {ol : DStepS} (h : dropAll p l = (pp, ol)) (h0 : x.1 = 0) (h1 : x.2 ≠ pp) : dropAll p (l ++ [x]) = (x.2, ol ++ [x]) := by
  rw [dropAll_snoc, h]; unfold dropS; simp [h0, h1]
theorem dropAll_turn {p : DPoint} {l : DStepS} {x : DStep} {pp : DPoint} {ol : DStepS} (h : dropAll p l = (pp, ol)) (h0 : x.1 ≠ 0) : dropAll p (l ++ [x]) = (pp, ol ++ [x]) := by
  rw [dropAll_snoc, h]; unfold dropS; simp [h0]
end Go.Proofs.Ytjkbecgenjhaaaa
