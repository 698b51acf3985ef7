/-
  A slice that is built by append: what it holds, where its parts lie. No program here.
-/
import Derived.Test.YtjkbecgenjhaaaaMem
import Derived.Maps.AppendAt
namespace Go.Proofs.Ytjkbecgenjhaaaa
open Go.RowKit

/-- The slice v, of the call's ow from block 'base' on, holds the elements l. 'ow': the elements' ow blocks lie there too, no two alike. -/
def Grow {α : Type} (A : Rp α) (ow : Bool) (base : Nat) (w : World) (e : TypeId) (v : Value) (l : List α) : Prop :=
  ∃ (xs : List Value) (fps : List (List Nat)), w.ownsRow base e A.size v l.length xs ∧ fps.length = l.length ∧
    (∀ i x, l[i]? = some x → ∃ f cs, fps[i]? = some f ∧ A.rep w cs x f ∧ ∀ j c, cs[j]? = some c → xs[i * A.size + j]? = some c) ∧
    (∀ b ∈ fps.flatten, some b ≠ v.ownBlock) ∧ (ow = true → fps.flatten.Nodup ∧ ∀ b ∈ fps.flatten, base ≤ b ∧ Free w b)
section
variable {α : Type} {A : Rp α} {ow : Bool} {base : Nat} {w w' : World} {e : TypeId} {v : Value} {l : List α}
theorem Grow.nil (A : Rp α) (ow : Bool) (base : Nat) (w : World) (e : TypeId) : Grow A ow base w e (.slice none 0 0) [] :=
  ⟨[], [], World.ownsRow_nil w base e A.size, rfl, fun i x h => by simp at h, fun b h => by simp at h, fun _ => ⟨by simp, fun b h => by simp at h⟩⟩
/-- The literal '[]T{}'. -/
theorem Grow.lit (A : Rp α) (ow : Bool) (w : World) (e : TypeId) {base : Nat} (hb : base ≤ w.heap.size) : Grow A ow base (w.alloc (.cells #[] e)) e (.slice (some ⟨w.heap.size, 0, none⟩) 0 0) [] :=
  ⟨[], [], ⟨by simp, .inr ⟨w.heap.size, 0, #[], rfl, hb, heap_alloc_new w _, Nat.le_refl _, Nat.zero_le _, by simp, by simp⟩⟩, rfl, fun i x h => by simp at h, fun b h => by simp at h, fun _ => ⟨by simp, fun b h => by simp at h⟩⟩
theorem ownsRow_lt {base : Nat} {size n : Nat} {xs : List Value} (h : w.ownsRow base e size v n xs) {b : Nat} (hb : v.ownBlock = some b) : base ≤ b ∧ b < w.heap.size := h.lt b hb
theorem Grow.below (h : Grow A ow base w e v l) (hb : Below w.heap.size w w') : Grow A ow base w' e v l := by
  obtain ⟨xs, fps, ho, hl, he, hne, hn⟩ := h
  refine ⟨xs, fps, ho.kept (row := none) ⟨hb.os, hb.tape, hb.output, hb.size, fun k hk _ => hb.block k hk⟩ (by cases v.ownBlock <;> simp), hl, fun i x hx => ?_, hne, fun h => ⟨(hn h).1, fun b hb' => ⟨((hn h).2 b hb').1, ((hn h).2 b hb').2.frame (hb.block b ((hn h).2 b hb').2.lt)⟩⟩⟩
  obtain ⟨f, cs, hf, hr, hc⟩ := he i x hx
  exact ⟨f, cs, hf, A.frame hr fun b hb' => hb.block b (A.lt hr b hb'), hc⟩
theorem Grow.form (h : Grow A ow base w e v l) : ∃ ad c, v = .slice ad l.length c ∧ l.length ≤ c ∧ c ≤ maxLen := by
  obtain ⟨xs, fps, ho, _⟩ := h
  rcases ho.2 with ⟨rfl, h0⟩ | ⟨g, cap, cur, rfl, _, _, h1, h2, _⟩
  · exact ⟨none, 0, by rw [h0], by omega, by omega⟩
  · exact ⟨_, cap, rfl, h1, h2⟩
theorem Grow.rep (h : Grow A ow base w e v l) {p : 0 < A.size} : ∃ fp, (Rp.slice A p).rep w [v] l fp ∧ (ow = true → OwnFp base w fp) := by
  obtain ⟨xs, fps, ho, hl, he, hne, hn⟩ := h
  rcases ho.2 with ⟨rfl, h0⟩ | ⟨g, cap, cur, rfl, hbg, hg, h1, h2, h3, h4⟩
  · have : l = [] := List.eq_nil_of_length_eq_zero h0
    subst this
    exact ⟨[], ⟨none, 0, rfl, Nat.le_refl _, Nat.zero_le _, .inl ⟨rfl, rfl⟩⟩, fun _ => ⟨List.nodup_nil, fun b hb => by cases hb⟩⟩
  · by_cases hl0 : l = []
    · subst hl0
      exact ⟨[], ⟨_, cap, rfl, h1, h2, .inl ⟨rfl, rfl⟩⟩, fun _ => ⟨List.nodup_nil, fun b hb => by cases hb⟩⟩
    · refine ⟨g :: fps.flatten, ⟨_, cap, rfl, h1, h2, .inr ⟨g, 0, fps, hl0, rfl, rfl, hl, fun i x hx => ?_⟩⟩, fun h => ⟨List.nodup_cons.2 ⟨fun hm => hne g hm rfl, (hn h).1⟩, fun b hb => ?_⟩⟩
      · obtain ⟨f, cs, hf, hr, hc⟩ := he i x hx
        refine ⟨f, cs, hf, hr, fun j c hj => ?_⟩
        have hx2 := hc j c hj
        rw [Nat.zero_add, cell_of_row w g _ cur e (0, 0) hg, ← Array.getElem?_toList]
        rw [← h4, List.getElem?_take] at hx2
        split at hx2
        · exact hx2
        · cases hx2
      · rcases List.mem_cons.1 hb with rfl | hb
        · exact ⟨hbg, cur, e, hg⟩
        · exact (hn h).2 b hb
theorem Grow.own (h : Grow A true base w e v l) {p : 0 < A.size} : Own (Rp.slice A p) base w [v] l := let ⟨fp, hr, ho⟩ := h.rep (p := p); ⟨fp, hr, ho rfl⟩
theorem Grow.has (h : Grow A ow base w e v l) {p : 0 < A.size} : Has (Rp.slice A p) w [v] l := let ⟨fp, hr, _⟩ := h.rep (p := p); ⟨fp, hr⟩
/-- Behind the append of one element. -/
theorem Grow.step {w0 : World} {v' : Value} {x : α} {cs : List Value} {fx : List Nat} (h : Grow A ow base w0 e v l) (hb : Below w0.heap.size w0 w) (hx : A.rep w cs x fx)
    (hfx : ∀ b ∈ fx, b < base ∨ w0.heap.size ≤ b) (hox : ow = true → fx.Nodup ∧ ∀ b ∈ fx, w0.heap.size ≤ b ∧ Free w b) (hbase : base ≤ w0.heap.size)
    (hrow : ∀ xs, w.ownsRow base e A.size v l.length xs → w'.ownsRow base e A.size v' (l.length + 1) (xs ++ cs) ∧ w.grownBy w' v.ownBlock ∧ (v'.ownBlock = v.ownBlock ∨ v'.ownBlock = some w.heap.size)) :
    Grow A ow base w' e v' (l ++ [x]) := by
  have h' := h.below hb
  obtain ⟨xs0, fps0, ho0, hl0, he0, hne0, hn0⟩ := h
  have ho : w.ownsRow base e A.size v l.length xs0 := ho0.kept (row := none) ⟨hb.os, hb.tape, hb.output, hb.size, fun k hk _ => hb.block k hk⟩ (by cases v.ownBlock <;> simp)
  obtain ⟨hr1, hr2, hr3⟩ := hrow xs0 ho
  have hvlt : ∀ g, v.ownBlock = some g → base ≤ g ∧ g < w0.heap.size := fun g hg => ho0.lt g hg
  have hold : ∀ b ∈ fps0.flatten, b < w0.heap.size := by
    intro b hb'
    obtain ⟨f, hf, hbf⟩ := List.mem_flatten.1 hb'
    obtain ⟨i, hi, rfl⟩ := List.getElem_of_mem hf
    obtain ⟨f', c', hf', hr', _⟩ := he0 i (l[i]'(by omega)) (List.getElem?_eq_getElem (by omega))
    rw [List.getElem?_eq_getElem hi] at hf'
    injection hf' with hf'
    exact A.lt hr' b (hf' ▸ hbf)
  have hfxg : ∀ b ∈ fx, some b ≠ v.ownBlock := by
    intro b hb' he
    have := hvlt b he.symm
    rcases hfx b hb' with h | h <;> omega
  have hxlt : ∀ b ∈ fx, b < w.heap.size := A.lt hx
  have hnew : ∀ b, b < w.heap.size → some b ≠ v.ownBlock → some b ≠ v'.ownBlock := by
    intro b hb' hne he
    rcases hr3 with h | h
    · exact hne (he.trans h)
    · rw [h] at he; injection he with he; omega
  have hkeep : ∀ b, b < w.heap.size → some b ≠ v.ownBlock → w'.heap[b]? = w.heap[b]? := fun b h1 h2 => hr2.block b h1 h2
  have hold' : ∀ b ∈ fps0.flatten, b < w.heap.size := fun b hb' => Nat.lt_of_lt_of_le (hold b hb') hb.size
  have hxl : xs0.length = l.length * A.size := ho0.1
  refine ⟨xs0 ++ cs, fps0 ++ [fx], by rw [List.length_append]; exact hr1, by simp [hl0], fun i y hy => ?_, fun b hb' => ?_, fun hown => ⟨?_, fun b hb' => ?_⟩⟩
  · rcases Nat.lt_or_ge i l.length with hi | hi
    · rw [List.getElem?_append_left hi] at hy
      obtain ⟨f, c, hf, hr, hc⟩ := he0 i y hy
      have hil : i < fps0.length := by omega
      refine ⟨f, c, by rw [List.getElem?_append_left hil]; exact hf, A.frame (A.frame hr fun b hbf => hb.block b (A.lt hr b hbf)) fun b hbf => ?_, fun j u hu => ?_⟩
      · have hm : b ∈ fps0.flatten := List.mem_flatten.2 ⟨f, List.mem_of_getElem? hf, hbf⟩
        exact hkeep b (hold' b hm) (hne0 b hm)
      · have := hc j u hu
        rw [List.getElem?_append_left (List.getElem?_eq_some_iff.1 this).1]
        exact this
    · have hi' : i = l.length := by
        have := (List.getElem?_eq_some_iff.1 hy).1
        simp at this
        omega
      subst hi'
      simp at hy
      subst hy
      refine ⟨fx, cs, by rw [← hl0]; simp, A.frame hx fun b hbf => hkeep b (hxlt b hbf) (hfxg b hbf), fun j u hu => ?_⟩
      rw [List.getElem?_append_right (by omega), hxl, Nat.add_sub_cancel_left]
      exact hu
  · rw [List.flatten_append, List.mem_append] at hb'
    rcases hb' with hb' | hb'
    · exact hnew b (hold' b hb') (hne0 b hb')
    · have hb'' : b ∈ fx := by simpa using hb'
      exact hnew b (hxlt b hb'') (hfxg b hb'')
  · rw [List.flatten_append, List.nodup_append]
    refine ⟨(hn0 hown).1, by simpa using (hox hown).1, fun p hp q hq he => ?_⟩
    have := hold p hp
    have := ((hox hown).2 q (by simpa using hq)).1
    omega
  · rw [List.flatten_append, List.mem_append] at hb'
    rcases hb' with hb' | hb'
    · have h1 := (hn0 hown).2 b hb'
      exact ⟨h1.1, (h1.2.frame (hb.block b h1.2.lt)).frame (hkeep b (hold' b hb') (hne0 b hb'))⟩
    · have hb'' : b ∈ fx := by simpa using hb'
      have h1 := (hox hown).2 b hb''
      exact ⟨by omega, h1.2.frame (hkeep b (hxlt b hb'') (hfxg b hb''))⟩
end

section
variable {α : Type} {A : Rp α} {ow : Bool} {P : Program} (w : World)
/-- 'out = append(out, x)': x lies in a row B of one element that the statement itself has made. -/
theorem run_grow {base : Nat} {w0 : World} {v : Value} {l : List α} {x : α} {cs : List Value} {fx : List Nat} (t ty e : TypeId) (i : TypeInfo) (z : Value) (bytes : Nat) (ht : P.underlying t = some (.slice e)) (hi : P.info? e = some i) (hz : i.zero = some z)
    (hsize : i.size = A.size) (hby : i.bytes = bytes) (hzs : z.cells.size = A.size) (hsz : 0 < A.size)
    (h : Grow A ow base w0 e v l) (hb : Below w0.heap.size w0 w) (hx : A.rep w cs x fx) (hfx : ∀ b ∈ fx, b < base ∨ w0.heap.size ≤ b) (hox : ow = true → fx.Nodup ∧ ∀ b ∈ fx, w0.heap.size ≤ b ∧ Free w b) (hbase : base ≤ w0.heap.size)
    (B c : Nat) (hB : ∀ j u, cs[j]? = some u → w.cell? ⟨B, j, none⟩ = some u) (h63 : l.length + 1 ≤ maxLen) (hbytes : (l.length + 1) * bytes ≤ 140737488355328) :
    ∃ v' w', (Builtin.append_ #[t, t] ty #[v, .slice (some ⟨B, 0, none⟩) 1 c]).run P w = .ok v' w' ∧ Grow A ow base w' e v' (l ++ [x]) ∧ Below base w w' ∧ ∀ b, w0.heap.size ≤ b → b < w.heap.size → w'.heap[b]? = w.heap[b]? := by
  have hvlt : ∀ g, v.ownBlock = some g → base ≤ g ∧ g < w0.heap.size := fun g hg => by obtain ⟨_, _, ho, _⟩ := h; exact ho.lt g hg
  obtain ⟨xs, fps, ho, _⟩ := h.below hb
  have hone : ∀ u ∈ cs, u.oneCell' = true := A.one hx
  have hadd : ∀ j, (⟨B, 0, none⟩ : Addr).add j = ⟨B, j, none⟩ := fun j => by
    unfold Addr.add
    by_cases hj : j = 0
    · subst hj; rfl
    · rw [if_neg hj]; simp
  obtain ⟨v', w', hrun, h2, h3, _, h5⟩ := run_append_own_at (P := P) w base t ty e i z A.size bytes ht hi hz hsize hby hzs hsz v l.length xs ho ⟨B, 0, none⟩ 1 c cs (by rw [A.len hx]; omega)
    (fun j u hu => by rw [hadd]; exact hB j u hu) hone h63 hbytes (Nat.le_trans hbase hb.size)
  refine ⟨v', w', hrun, h.step hb hx hfx hox hbase fun xs' ho' => ?_, ?_, fun b h1 h2 => h3.block b h2 fun e => by have := (hvlt b e.symm).2; omega⟩
  · have : xs' = xs := by
      have h1 := ho.2
      have h2 := ho'.2
      rcases h1 with ⟨e1, n1⟩ | ⟨g, cap, cur, e1, _, g1, _, _, _, t1⟩
      · rcases h2 with ⟨_, _⟩ | ⟨g', cap', cur', e2, _⟩
        · have e1 : xs = [] := List.eq_nil_of_length_eq_zero (by rw [ho.1, n1]; simp)
          have e2 : xs' = [] := List.eq_nil_of_length_eq_zero (by rw [ho'.1, n1]; simp)
          rw [e1, e2]
        · rw [e1] at e2; cases e2
      · rcases h2 with ⟨e2, _⟩ | ⟨g', cap', cur', e2, _, g2, _, _, _, t2⟩
        · rw [e1] at e2; cases e2
        · rw [e1] at e2
          injection e2 with e2
          injection e2 with e2
          injection e2 with e2
          subst e2
          rw [g1] at g2
          injection g2 with g2
          injection g2 with g2
          subst g2
          exact t2.symm.trans t1
    subst this
    exact ⟨h2, h3, h5⟩
  · exact ⟨h3.os, h3.tape, h3.output, h3.size, fun k hk => h3.block k (by have := hb.size; omega) (fun e => by have := (ho.lt k e.symm).1; omega)⟩

theorem wpList_grow {ops : Array Oper} {rest : List Oper} {o : Oper} {a : Act} {Q : Exit → Act → World → Prop} {base : Nat} {w0 : World} {v : Value} {l : List α} {x : α} {cs : List Value} {fx : List Nat} (hgd : o.guard = none) (s y : Operand) (t : TypeId)
    (ho : o.op = .call { callee := .builtin .append, args := #[s, y], argTypes := #[t, t] }) (e : TypeId) (i : TypeInfo) (z : Value) (bytes : Nat) (ht : P.underlying t = some (.slice e)) (hi : P.info? e = some i) (hz : i.zero = some z)
    (hsize : i.size = A.size) (hby : i.bytes = bytes) (hzs : z.cells.size = A.size) (hsz : 0 < A.size)
    (hs : a.eval s = v) (h : Grow A ow base w0 e v l) (hb : Below w0.heap.size w0 w) (hx : A.rep w cs x fx) (hfx : ∀ b ∈ fx, b < base ∨ w0.heap.size ≤ b) (hox : ow = true → fx.Nodup ∧ ∀ b ∈ fx, w0.heap.size ≤ b ∧ Free w b) (hbase : base ≤ w0.heap.size)
    (B c : Nat) (hy : a.eval y = .slice (some ⟨B, 0, none⟩) 1 c) (hB : ∀ j u, cs[j]? = some u → w.cell? ⟨B, j, none⟩ = some u) (h63 : l.length + 1 ≤ maxLen) (hbytes : (l.length + 1) * bytes ≤ 140737488355328)
    (hK : ∀ v' w', Grow A ow base w' e v' (l ++ [x]) → Below base w w' → (∀ b, w0.heap.size ≤ b → b < w.heap.size → w'.heap[b]? = w.heap[b]?) → wpList P ops Q rest (a.put o.dst v') w') : wpList P ops Q (o :: rest) a w := by
  refine wpList_plain hgd fun K hK' => ?_
  obtain ⟨v', w', hrun, h2, h3, h4⟩ := run_grow (P := P) w t o.type e i z bytes ht hi hz hsize hby hzs hsz h hb hx hfx hox hbase B c hB h63 hbytes
  unfold Oper.wp execOp
  simp only [ho, resolve, invoke, builtin, Sem.run_bind, Sem.run_pure, Result.andThen_ok, List.map_toArray, List.map_cons, List.map_nil, hs, hy, hrun]
  exact hK' _ _ (hK v' w' h2 h3 h4)
end
end Go.Proofs.Ytjkbecgenjhaaaa
