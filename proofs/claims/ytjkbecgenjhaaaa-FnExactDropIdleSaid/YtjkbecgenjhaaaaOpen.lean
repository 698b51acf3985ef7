/-
  From the reading of an argument to 'Has': whatever can be read as data of a type of integers, truth values, structs and slices lies in cells as this family's predicates say. No program here.
-/
import Derived.Test.YtjkbecgenjhaaaaMem
import Derived.ProofKit
import Derived.Deep.Slices
namespace Go.Proofs.Ytjkbecgenjhaaaa
open Go.RowKit Go.ChangeShapes Go.WideShapes Go.Deep

section
variable {H : Type} (enc : TypeId × Value → H) (P : Program) (w : World)
/-- Whatever reads as data of type t holds what A says. -/
def Opens {α : Type} (t : TypeId) (A : Rp α) : Prop := ∀ (fuel : Nat) (cs : List Value) (x : DataW H × List MemPlace), DataW.trod enc P w 0 (fun _ => true) true fuel t cs = some x → ∃ a, Has A w cs a
variable {enc P w}
theorem Opens.int {t : TypeId} (ht : P.underlying t = some (.int .i64)) : Opens enc P w t Rp.int := fun fuel cs x h => by
  obtain ⟨n, rfl, _, wn⟩ := DataW.trod_int ht h
  have : I64 n := by simpa [Lit.wf, IntKind.min, IntKind.max, IntKind.signed, IntKind.bits, I64] using wn
  exact ⟨n, [], rfl, rfl, this⟩
theorem Opens.bool {t : TypeId} (ht : P.underlying t = some .bool) : Opens enc P w t Rp.bool := fun fuel cs x h => by
  obtain ⟨n, rfl, _⟩ := DataW.trod_bool ht h
  exact ⟨n, [], rfl, rfl⟩
theorem Opens.prod {α β : Type} {t : TypeId} {A : Rp α} {B : Rp β} {f0 f1 : Field} (ht : P.underlying t = some (.struct #[f0, f1])) (o0 : f0.offset = 0) (o1 : f1.offset = A.size)
    (s0 : P.cellsOf f0.type = A.size) (s1 : P.cellsOf f1.type = B.size) (s : P.cellsOf t = A.size + B.size) (h0 : Opens enc P w f0.type A) (h1 : Opens enc P w f1.type B) : Opens enc P w t (Rp.prod A B) := fun fuel cs x h => by
  obtain ⟨xs, n, _, _, hl, hxl, hf⟩ := DataW.trod_struct ht h
  have e0 := hf 0 f0 rfl
  have e1 := hf 1 f1 rfl
  have hxl' : xs.length = 2 := hxl
  rw [o0, s0, List.getElem?_eq_getElem (by omega)] at e0
  rw [o1, s1, List.getElem?_eq_getElem (by omega)] at e1
  obtain ⟨a, fa, ra⟩ := h0 _ _ _ e0
  obtain ⟨b, fb, rb⟩ := h1 _ _ _ e1
  refine ⟨(a, b), fa ++ fb, _, _, fa, fb, ?_, rfl, ra, rb⟩
  rw [List.drop_zero, List.take_of_length_le (show (cs.drop A.size).length ≤ B.size by simp; omega), List.take_append_drop]
theorem Opens.slice {α : Type} {t e : TypeId} {A : Rp α} {p : 0 < A.size} (ht : P.underlying t = some (.slice e)) (hs : P.cellsOf e = A.size) (h0 : Opens enc P w e A) : Opens enc P w t (Rp.slice A p) := fun fuel cs x h => by
  rcases open_slice ht h with ⟨rfl, _⟩ | ⟨a, len, cap, m, n, D, Pl, rfl, hb, hl, hm, hmm, hx, hi⟩
  · exact ⟨[], [], none, 0, rfl, Nat.le_refl _, Nat.zero_le _, .inl ⟨rfl, rfl⟩⟩
  · have hcap : m = cap := by simpa using hmm
    clear hmm hx
    rw [hs] at hi
    by_cases h0l : len = 0
    · subst h0l
      exact ⟨[], [], some a, cap, rfl, Nat.zero_le _, hm, .inl ⟨rfl, rfl⟩⟩
    -- every element
    have hel : ∀ i, i < len → ∃ y : α × List Nat × List Value, A.rep w y.2.2 y.1 y.2.1 ∧ ∀ j v, y.2.2[j]? = some v → w.cell? ((a.add (i * A.size)).add j) = some v := by
      intro i hil
      obtain ⟨cs', hc, htr⟩ := hi i (by omega)
      obtain ⟨x, f, r⟩ := h0 _ _ _ htr
      obtain ⟨_, hcl, hat⟩ := World.cells?_some hc
      refine ⟨(x, f, cs'), r, fun j v hv => ?_⟩
      have hj : j < cs'.length := (List.getElem?_eq_some_iff.1 hv).1
      rw [hat j (by omega)]
      exact hv
    have hex : ∃ ys : List (α × List Nat × List Value), ys.length = len ∧ ∀ i y, ys[i]? = some y → A.rep w y.2.2 y.1 y.2.1 ∧ ∀ j v, y.2.2[j]? = some v → w.cell? ((a.add (i * A.size)).add j) = some v := by
      have : ∀ k, k ≤ len → ∃ ys : List (α × List Nat × List Value), ys.length = k ∧ ∀ i y, ys[i]? = some y → A.rep w y.2.2 y.1 y.2.1 ∧ ∀ j v, y.2.2[j]? = some v → w.cell? ((a.add (i * A.size)).add j) = some v := by
        intro k
        induction k with
        | zero => intro _; exact ⟨[], rfl, fun i y h => by simp at h⟩
        | succ k ih =>
          intro hk
          obtain ⟨ys, hyl, hys⟩ := ih (by omega)
          obtain ⟨y, hy⟩ := hel k (by omega)
          refine ⟨ys ++ [y], by simp [hyl], fun i z hz => ?_⟩
          rcases Nat.lt_or_ge i ys.length with hi | hi
          · rw [List.getElem?_append_left hi] at hz
            exact hys i z hz
          · have hik : i = k := by
              have := (List.getElem?_eq_some_iff.1 hz).1
              simp at this
              omega
            subst hik
            rw [← hyl] at hz ⊢
            simp at hz
            subst hz
            exact hyl ▸ hy
      exact this len (Nat.le_refl _)
    obtain ⟨ys, hyl, hys⟩ := hex
    have hspot : a.spot = none := by
      have hy0 : ys[0]? = some (ys[0]'(by omega)) := List.getElem?_eq_getElem (by omega)
      obtain ⟨r, hc⟩ := hys 0 _ hy0
      have hcl := A.len r
      have h0c := hc 0 _ (List.getElem?_eq_getElem (by omega))
      simp [Addr.add] at h0c
      exact World.cell?_spot h0c
    obtain ⟨b, off, spot⟩ := a
    simp at hspot
    subst hspot
    refine ⟨ys.map (·.1), b :: (ys.map (·.2.1)).flatten, some ⟨b, off, none⟩, cap, by simp [hyl], by simpa [hyl] using hl, hm, .inr ⟨b, off, ys.map (·.2.1), ?_, rfl, rfl, by simp, fun i x hx => ?_⟩⟩
    · intro hn
      have : ys = [] := by simpa using hn
      subst this
      simp at hyl
      omega
    · rw [List.getElem?_map] at hx
      obtain ⟨y, hy, rfl⟩ := Option.map_eq_some_iff.1 hx
      obtain ⟨r, hc⟩ := hys i y hy
      refine ⟨y.2.1, y.2.2, by rw [List.getElem?_map, hy]; rfl, r, fun j v hv => ?_⟩
      have h := hc j v hv
      rw [Go.Deep.add_add] at h
      have hadd : ∀ k, (⟨b, off, none⟩ : Addr).add k = ⟨b, off + k, none⟩ := fun k => by
        unfold Addr.add
        by_cases hk : k = 0
        · subst hk; rfl
        · rw [if_neg hk]
      rw [hadd] at h
      rw [Nat.add_assoc]
      exact h
end
end Go.Proofs.Ytjkbecgenjhaaaa
