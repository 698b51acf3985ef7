/-
  Slices of integers that are built by append: one by one, or a whole slice at once. No program here.
-/
import Derived.Test.YtjkbecgenjhaaaaGrow
import Derived.Test.YtjkbecgenjhaaaaData
import Derived.Deep.AppendLies
namespace Go.Proofs.Ytjkbecgenjhaaaa
open Go.RowKit

section
variable {o : Bool} {base : Nat} {w w' : World} {e : TypeId} {v : Value} {l : List Int}
theorem GrowInt.row (h : Grow Rp.int o base w e v l) : w.ownsRow base e 1 v l.length (l.map (Value.int .i64)) ∧ ∀ x ∈ l, I64 x := by
  obtain ⟨xs, fps, ho, hl, he, _, _⟩ := h
  have hxl : xs.length = l.length := by have := ho.1; simpa [Rp.int] using this
  have hall : ∀ (i : Nat) (x : Int), l[i]? = some x → xs[i]? = some (Value.int .i64 x) ∧ I64 x := by
    intro i x hx
    obtain ⟨f, cs, _, hr, hc⟩ := he i x hx
    obtain ⟨rfl, _, hI⟩ := hr
    exact ⟨by simpa [Rp.int] using hc 0 _ rfl, hI⟩
  have hxs : xs = l.map (Value.int .i64) := by
    apply List.ext_getElem?
    intro i
    rw [List.getElem?_map]
    rcases Nat.lt_or_ge i l.length with hi | hi
    · have := (hall i l[i] (List.getElem?_eq_getElem hi)).1
      rw [this, List.getElem?_eq_getElem hi]; rfl
    · rw [List.getElem?_eq_none (by omega), List.getElem?_eq_none hi]; rfl
  refine ⟨hxs ▸ ho, fun x hx => ?_⟩
  obtain ⟨i, hi, rfl⟩ := List.getElem_of_mem hx
  exact (hall i _ (List.getElem?_eq_getElem hi)).2
theorem flatten_nils (n : Nat) : (List.replicate n ([] : List Nat)).flatten = [] := by
  induction n with
  | zero => rfl
  | succ n ih => simp
theorem GrowInt.of (h : w.ownsRow base e 1 v l.length (l.map (Value.int .i64))) (hI : ∀ x ∈ l, I64 x) : Grow Rp.int o base w e v l := by
  refine ⟨l.map (Value.int .i64), List.replicate l.length [], h, by simp, fun i x hx => ?_, fun b hb => ?_, fun _ => ⟨?_, fun b hb => ?_⟩⟩
  · have hi := (List.getElem?_eq_some_iff.1 hx).1
    refine ⟨[], [.int .i64 x], by simp [hi], ⟨rfl, rfl, hI x (List.mem_of_getElem? hx)⟩, fun j c hc => ?_⟩
    cases j with
    | zero => simp at hc; subst hc; simp [Rp.int, hx]
    | succ j => simp at hc
  · rw [flatten_nils] at hb; cases hb
  · rw [flatten_nils]; exact List.nodup_nil
  · rw [flatten_nils] at hb; cases hb
theorem Grow.of_empty {α : Type} {A : Rp α} {o : Bool} {base g : Nat} {w : World} {e : TypeId} (hg : w.heap[g]? = some (.cells #[] e (0, 0))) (hb : base ≤ g) : Grow A o base w e (.slice (some ⟨g, 0, none⟩) 0 0) [] :=
  ⟨[], [], ⟨by simp, .inr ⟨g, 0, #[], rfl, hb, hg, Nat.le_refl _, Nat.zero_le _, by simp, by simp⟩⟩, rfl, fun i x h => by simp at h, fun b h => by simp at h, fun _ => ⟨by simp, fun b h => by simp at h⟩⟩
end

section
variable {P : Program} (w : World)
theorem run_append_of_none {base : Nat} (t ty e : TypeId) (i : TypeInfo) (size : Nat) (ht : P.underlying t = some (.slice e)) (hi : P.info? e = some i)
    (v : Value) (n : Nat) (xs : List Value) (hown : w.ownsRow base e size v n xs) (c : Nat) : (Builtin.append_ #[t, t] ty #[v, .slice none 0 c]).run P w = .ok v w := by
  rcases hown.2 with ⟨rfl, rfl⟩ | ⟨g, cap, cur, rfl, _, _, hnc, _⟩
  · simp [Builtin.append_, run_underlying ht, sizeOf, typeInfo, hi, Builtin.lenOf, Builtin.firstCells]
  · simp [Builtin.append_, run_underlying ht, sizeOf, typeInfo, hi, Builtin.lenOf, Builtin.firstCells, hnc, storeCells]

/-- 'append(v, y...)', integers. -/
theorem run_append_ints {o : Bool} {base : Nat} {v : Value} {l m : List Int} (t ty e : TypeId) (i : TypeInfo) (ht : P.underlying t = some (.slice e)) (hi : P.info? e = some i) (hz : i.zero = some (.int .i64 0))
    (hsize : i.size = 1) (hby : i.bytes = 8) (h : Grow Rp.int o base w e v l) (y : Value) (hy : Has RIntS w [y] m) (hlen : l.length + m.length ≤ 17592186044416) (hbase : base ≤ w.heap.size) :
    ∃ v' w', (Builtin.append_ #[t, t] ty #[v, y]).run P w = .ok v' w' ∧ Grow Rp.int o base w' e v' (l ++ m) ∧ w.grownBy w' v.ownBlock ∧ (v'.ownBlock = v.ownBlock ∨ v'.ownBlock = some w.heap.size) := by
  obtain ⟨ho, hI⟩ := GrowInt.row h
  obtain ⟨ad, c, rfl, hmc, hc, hg⟩ := hy.elems
  have hIm : ∀ x ∈ m, I64 x := by
    intro x hx
    obtain ⟨j, hj, rfl⟩ := List.getElem_of_mem hx
    obtain ⟨_, _, cs, _, _, hxx, _⟩ := hg j hj
    obtain ⟨c0, rfl⟩ := list1 hxx.len
    exact hxx.int.2
  have hIa : ∀ x ∈ l ++ m, I64 x := fun x hx => (List.mem_append.1 hx).elim (hI x) (hIm x)
  cases ad with
  | none =>
    have hm0 : m = [] := by
      rcases m with _ | ⟨x, m⟩
      · rfl
      · obtain ⟨_, _, _, h, _⟩ := hg 0 (by simp); cases h
    subst hm0
    refine ⟨v, w, run_append_of_none w t ty e i 1 ht hi v l.length _ ho c, by simpa using h, World.grownBy.refl w _, .inl rfl⟩
  | some a =>
    have hnews : ∀ j u, (m.map (Value.int .i64))[j]? = some u → w.cell? (a.add j) = some u := by
      intro j u hu
      rw [List.getElem?_map] at hu
      obtain ⟨x, hx, rfl⟩ := Option.map_eq_some_iff.1 hu
      have hj := (List.getElem?_eq_some_iff.1 hx).1
      obtain ⟨b, off, cs, hab, _, hxx, hcs⟩ := hg j hj
      injection hab with hab
      subst hab
      obtain ⟨c0, rfl⟩ := list1 hxx.len
      have h1 := hcs 0 _ rfl
      rw [hxx.int.1] at h1
      have hadd : (⟨b, off, none⟩ : Addr).add j = ⟨b, off + j, none⟩ := by
        unfold Addr.add
        by_cases hk : j = 0
        · subst hk; rfl
        · rw [if_neg hk]
      rw [hadd]
      have hxe : m[j] = x := by have := List.getElem?_eq_getElem hj; rw [hx] at this; injection this with this; exact this.symm
      rw [hxe] at h1
      simpa [Rp.int] using h1
    obtain ⟨v', w', hrun, h2, h3, _, h5⟩ := run_append_own_at (P := P) w base t ty e i (.int .i64 0) 1 8 ht hi hz hsize hby rfl (by omega) v l.length _ ho a m.length c (m.map (Value.int .i64)) (by simp) hnews
      (fun u hu => by obtain ⟨x, _, rfl⟩ := List.mem_map.1 hu; rfl) (by unfold maxLen; omega) (by omega) hbase
    exact ⟨v', w', hrun, GrowInt.of (by simpa using h2) hIa, h3, h5⟩

theorem wpList_append_ints {ops : Array Oper} {rest : List Oper} {op : Oper} {a : Act} {Q : Exit → Act → World → Prop} {o : Bool} {base : Nat} {v : Value} {l m : List Int} (hgd : op.guard = none) (s y : Operand) (t : TypeId)
    (hop : op.op = .call { callee := .builtin .append, args := #[s, y], argTypes := #[t, t] }) (e : TypeId) (i : TypeInfo) (ht : P.underlying t = some (.slice e)) (hi : P.info? e = some i) (hz : i.zero = some (.int .i64 0))
    (hsize : i.size = 1) (hby : i.bytes = 8) (hs : a.eval s = v) (h : Grow Rp.int o base w e v l) (yv : Value) (hyv : a.eval y = yv) (hy : Has RIntS w [yv] m) (hlen : l.length + m.length ≤ 17592186044416) (hbase : base ≤ w.heap.size)
    (hK : ∀ v' w', Grow Rp.int o base w' e v' (l ++ m) → w.grownBy w' v.ownBlock → (v'.ownBlock = v.ownBlock ∨ v'.ownBlock = some w.heap.size) → wpList P ops Q rest (a.put op.dst v') w') : wpList P ops Q (op :: rest) a w := by
  refine wpList_plain hgd fun K hK' => ?_
  obtain ⟨v', w', hrun, h2, h3, h4⟩ := run_append_ints (P := P) w t op.type e i ht hi hz hsize hby h yv hy hlen hbase
  unfold Oper.wp execOp
  simp only [hop, resolve, invoke, builtin, Sem.run_bind, Sem.run_pure, Result.andThen_ok, List.map_toArray, List.map_cons, List.map_nil, hs, hyv, hrun]
  exact hK' _ _ (hK v' w' h2 h3 h4)
theorem step_append_ints {ops : Array Oper} {op : Oper} {a : Act} {K : Act → World → Prop} {Q : Exit → Act → World → Prop} {E : Prop} {o : Bool} {base : Nat} {v : Value} {l m : List Int} (hgd : op.guard = none) (s y : Operand) (t : TypeId)
    (hop : op.op = .call { callee := .builtin .append, args := #[s, y], argTypes := #[t, t] }) (e : TypeId) (i : TypeInfo) (ht : P.underlying t = some (.slice e)) (hi : P.info? e = some i) (hz : i.zero = some (.int .i64 0))
    (hsize : i.size = 1) (hby : i.bytes = 8) (hs : a.eval s = v) (h : Grow Rp.int o base w e v l) (yv : Value) (hyv : a.eval y = yv) (hy : Has RIntS w [yv] m) (hlen : l.length + m.length ≤ 17592186044416) (hbase : base ≤ w.heap.size)
    (hK : ∀ v' w', Grow Rp.int o base w' e v' (l ++ m) → w.grownBy w' v.ownBlock → (v'.ownBlock = v.ownBlock ∨ v'.ownBlock = some w.heap.size) → K (a.put op.dst v') w') :
    if Region.wanted op (yielded ops a.tmps) = true then Oper.wp P op a w K Q else E := by
  rw [if_pos (by simp [Region.wanted, hgd])]
  obtain ⟨v', w', hrun, h2, h3, h4⟩ := run_append_ints (P := P) w t op.type e i ht hi hz hsize hby h yv hy hlen hbase
  unfold Oper.wp execOp
  simp only [hop, resolve, invoke, builtin, Sem.run_bind, Sem.run_pure, Result.andThen_ok, List.map_toArray, List.map_cons, List.map_nil, hs, hyv, hrun]
  exact hK v' w' h2 h3 h4
end

theorem GrowInt.keep {o : Bool} {base : Nat} {w w' : World} {e : TypeId} {v : Value} {l : List Int} (h : Grow Rp.int o base w e v l) {row : Option Nat} (hgr : w.grownBy w' row) (hne : ∀ k, v.ownBlock = some k → some k ≠ row) : Grow Rp.int o base w' e v l := by
  obtain ⟨h1, h2⟩ := GrowInt.row h
  refine GrowInt.of (h1.kept hgr ?_) h2
  cases hv : v.ownBlock with
  | none => exact .inl rfl
  | some k => exact .inr (hne k hv)

/-- A step of a region: a copy of a slice of integers, appended to an empty literal in block g; three cells of a box are as they were. -/
theorem step_copy_ints {P : Program} {ops : Array Oper} {op : Oper} {a : Act} {K : Act → World → Prop} {Q : Exit → Act → World → Prop} {E : Prop} {B g b0 : Nat} {w W : World} {m : List Int} {v0 v1 v2 : Value} (hgd : op.guard = none) (s y : Operand) (t : TypeId)
    (hop : op.op = .call { callee := .builtin .append, args := #[s, y], argTypes := #[t, t] }) (e : TypeId) (i : TypeInfo) (ht : P.underlying t = some (.slice e)) (hi : P.info? e = some i) (hz : i.zero = some (.int .i64 0))
    (hsize : i.size = 1) (hby : i.bytes = 8) (hs : a.eval s = .slice (some ⟨g, 0, none⟩) 0 0) (yv : Value) (hyv : a.eval y = yv) (hg : W.heap[g]? = some (.cells #[] e (0, 0))) (hBg : w.heap.size ≤ g) (hB : B ≤ g) (hb : Below w.heap.size w W)
    (hy : Has RIntS w [yv] m) (hlen : m.length ≤ 1099511627776) (hS : W.cell? ⟨b0, 0, none⟩ = some v0 ∧ W.cell? ⟨b0, 1, none⟩ = some v1 ∧ W.cell? ⟨b0, 2, none⟩ = some v2) (hb0 : b0 < g)
    (hK : ∀ ad cap W', Grow Rp.int true B W' e (.slice ad m.length cap) m → W.grownBy W' (some g) → (∀ k, (Value.slice ad m.length cap).ownBlock = some k → (k = g ∨ k = W.heap.size) ∧ k < W'.heap.size) → Below w.heap.size w W' → W.heap.size ≤ W'.heap.size →
      W'.cell? ⟨b0, 0, none⟩ = some v0 ∧ W'.cell? ⟨b0, 1, none⟩ = some v1 ∧ W'.cell? ⟨b0, 2, none⟩ = some v2 → (∀ k, k < g → ∀ o p, W'.cell? ⟨k, o, p⟩ = W.cell? ⟨k, o, p⟩) → (∀ k, k < g → ∀ o p, W'.frozen? ⟨k, o, p⟩ = W.frozen? ⟨k, o, p⟩) → K (a.put op.dst (.slice ad m.length cap)) W') :
    if Region.wanted op (yielded ops a.tmps) = true then Oper.wp P op a W K Q else E := by
  have hgl : g < W.heap.size := by
    rcases Nat.lt_or_ge g W.heap.size with h | h
    · exact h
    · rw [Array.getElem?_eq_none h] at hg; cases hg
  refine step_append_ints (P := P) W hgd s y t hop e i ht hi hz hsize hby hs (Grow.of_empty (o := true) (base := B) hg hB) yv hyv (hy.below hb) (by simp; omega) (by omega) ?_
  intro v' W' hg' hgr hat
  simp only [List.nil_append] at hg'
  obtain ⟨ad, cap, rfl, _⟩ := hg'.form
  have hsz := hgr.size
  refine hK ad cap W' hg' hgr (fun k hk => ⟨?_, ?_⟩) (hb.grown hgr (by omega) (fun k hk => by simp [Value.ownBlock] at hk; omega)) hsz ⟨?_, ?_, ?_⟩ (fun k hk o p => hgr.cell_far ⟨k, o, p⟩ (by simp; omega) (by simp [Value.ownBlock]; omega)) (fun k hk o p => hgr.frozen_far ⟨k, o, p⟩ (by simp; omega) (by simp [Value.ownBlock]; omega))
  · rcases hat with h | h
    · rw [hk] at h; simp [Value.ownBlock] at h; exact .inl h
    · rw [hk] at h; injection h with h; exact .inr h
  · exact (ownsRow_lt (GrowInt.row hg').1 hk).2
  · exact (hgr.cell_far ⟨b0, 0, none⟩ (by simp; omega) (by simp [Value.ownBlock]; omega)).trans hS.1
  · exact (hgr.cell_far ⟨b0, 1, none⟩ (by simp; omega) (by simp [Value.ownBlock]; omega)).trans hS.2.1
  · exact (hgr.cell_far ⟨b0, 2, none⟩ (by simp; omega) (by simp [Value.ownBlock]; omega)).trans hS.2.2
end Go.Proofs.Ytjkbecgenjhaaaa
