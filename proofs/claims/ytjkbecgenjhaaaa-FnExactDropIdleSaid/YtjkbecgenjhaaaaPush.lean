/-
  One element more at the end of a slice that is built: the element is of the statement's own, or new, or older than the slice. No program here.
-/
import Derived.Test.YtjkbecgenjhaaaaCopy
namespace Go.Proofs.Ytjkbecgenjhaaaa
open Go.RowKit
/-- The element x, in the cells cs, may be appended to a slice that is built from block 'base' on, and that lay in a world of n0 blocks. -/
def Arg {α : Type} (A : Rp α) (ow : Bool) (base n0 : Nat) (w : World) (cs : List Value) (x : α) : Prop :=
  ∃ fx, A.rep w cs x fx ∧ (∀ b ∈ fx, b < base ∨ n0 ≤ b) ∧ (ow = true → fx.Nodup ∧ ∀ b ∈ fx, n0 ≤ b ∧ Free w b)
section
variable {α : Type} {A : Rp α} {ow : Bool} {base n0 lo : Nat} {w w' w00 : World} {cs : List Value} {x : α}
theorem Arg.own (h : Own A lo w cs x) (hn : n0 ≤ lo) : Arg A ow base n0 w cs x := let ⟨fx, hr, hnd, ho⟩ := h; ⟨fx, hr, fun b hb => .inr (Nat.le_trans hn (ho b hb).1), fun _ => ⟨hnd, fun b hb => ⟨Nat.le_trans hn (ho b hb).1, (ho b hb).2⟩⟩⟩
theorem Arg.new (h : New A lo w cs x) (hn : n0 ≤ lo) : Arg A false base n0 w cs x := let ⟨fx, hr, ho⟩ := h; ⟨fx, hr, fun b hb => .inr (Nat.le_trans hn (ho b hb)), fun h => by cases h⟩
theorem Arg.old (h : Has A w00 cs x) (hb : Below w00.heap.size w00 w) : Arg A false w00.heap.size n0 w cs x :=
  let ⟨fx, hr⟩ := h; ⟨fx, A.frame hr fun b hb' => hb.block b (A.lt hr b hb'), fun b hb' => .inl (A.lt hr b hb'), fun h => by cases h⟩
end
section
variable {α : Type} {A : Rp α} {ow : Bool} {P : Program} (w : World)
theorem step_grow {ops : Array Oper} {op : Oper} {a : Act} {K : Act → World → Prop} {Q : Exit → Act → World → Prop} {E : Prop} {base : Nat} {w0 : World} {v : Value} {l : List α} {x : α} {cs : List Value} (hgd : op.guard = none) (s y : Operand) (t : TypeId)
    (hop : op.op = .call { callee := .builtin .append, args := #[s, y], argTypes := #[t, t] }) (e : TypeId) (i : TypeInfo) (z : Value) (bytes : Nat) (ht : P.underlying t = some (.slice e)) (hi : P.info? e = some i) (hz : i.zero = some z)
    (hsize : i.size = A.size) (hby : i.bytes = bytes) (hzs : z.cells.size = A.size) (hsz : 0 < A.size)
    (hs : a.eval s = v) (h : Grow A ow base w0 e v l) (hb : Below w0.heap.size w0 w) (hx : Arg A ow base w0.heap.size w cs x) (hbase : base ≤ w0.heap.size)
    (B c : Nat) (hy : a.eval y = .slice (some ⟨B, 0, none⟩) 1 c) (hB : ∀ j u, cs[j]? = some u → w.cell? ⟨B, j, none⟩ = some u) (h63 : l.length + 1 ≤ maxLen) (hbytes : (l.length + 1) * bytes ≤ 140737488355328)
    (hK : ∀ v' w', Grow A ow base w' e v' (l ++ [x]) → Below base w w' → (∀ b, w0.heap.size ≤ b → b < w.heap.size → w'.heap[b]? = w.heap[b]?) → K (a.put op.dst v') w') :
    if Region.wanted op (yielded ops a.tmps) = true then Oper.wp P op a w K Q else E := by
  rw [if_pos (by simp [Region.wanted, hgd])]
  obtain ⟨fx, hr, hfx, hox⟩ := hx
  obtain ⟨v', w', hrun, h2, h3, h4⟩ := run_grow (P := P) w t op.type e i z bytes ht hi hz hsize hby hzs hsz h hb hr hfx hox hbase B c hB h63 hbytes
  unfold Oper.wp execOp
  simp only [hop, resolve, invoke, builtin, Sem.run_bind, Sem.run_pure, Result.andThen_ok, List.map_toArray, List.map_cons, List.map_nil, hs, hy, hrun]
  exact hK v' w' h2 h3 h4
theorem wpList_push {ops : Array Oper} {rest : List Oper} {o : Oper} {a : Act} {Q : Exit → Act → World → Prop} {base : Nat} {w0 : World} {v : Value} {l : List α} {x : α} {cs : List Value} (hgd : o.guard = none) (s y : Operand) (t : TypeId)
    (ho : o.op = .call { callee := .builtin .append, args := #[s, y], argTypes := #[t, t] }) (e : TypeId) (i : TypeInfo) (z : Value) (bytes : Nat) (ht : P.underlying t = some (.slice e)) (hi : P.info? e = some i) (hz : i.zero = some z)
    (hsize : i.size = A.size) (hby : i.bytes = bytes) (hzs : z.cells.size = A.size) (hsz : 0 < A.size)
    (hs : a.eval s = v) (h : Grow A ow base w0 e v l) (hb : Below w0.heap.size w0 w) (hx : Arg A ow base w0.heap.size w cs x) (hbase : base ≤ w0.heap.size)
    (B c : Nat) (hy : a.eval y = .slice (some ⟨B, 0, none⟩) 1 c) (hB : ∀ j u, cs[j]? = some u → w.cell? ⟨B, j, none⟩ = some u) (h63 : l.length + 1 ≤ maxLen) (hbytes : (l.length + 1) * bytes ≤ 140737488355328)
    (hK : ∀ v' w', Grow A ow base w' e v' (l ++ [x]) → Below base w w' → (∀ b, w0.heap.size ≤ b → b < w.heap.size → w'.heap[b]? = w.heap[b]?) → wpList P ops Q rest (a.put o.dst v') w') : wpList P ops Q (o :: rest) a w := by
  obtain ⟨fx, hr, hfx, hox⟩ := hx
  exact wpList_grow w hgd s y t ho e i z bytes ht hi hz hsize hby hzs hsz hs h hb hr hfx hox hbase B c hy hB h63 hbytes hK
end
theorem cells7 {w : World} {B : Nat} {c0 c1 c2 c3 c4 c5 c6 : Value} (h0 : w.cell? ⟨B, 0, none⟩ = some c0) (h1 : w.cell? ⟨B, 1, none⟩ = some c1) (h2 : w.cell? ⟨B, 2, none⟩ = some c2) (h3 : w.cell? ⟨B, 3, none⟩ = some c3) (h4 : w.cell? ⟨B, 4, none⟩ = some c4) (h5 : w.cell? ⟨B, 5, none⟩ = some c5) (h6 : w.cell? ⟨B, 6, none⟩ = some c6) :
    ∀ j u, [c0, c1, c2, c3, c4, c5, c6][j]? = some u → w.cell? ⟨B, j, none⟩ = some u := by
  intro j u h
  match j, h with
  | 0, h => injection h with h; exact h ▸ h0
  | 1, h => injection h with h; exact h ▸ h1
  | 2, h => injection h with h; exact h ▸ h2
  | 3, h => injection h with h; exact h ▸ h3
  | 4, h => injection h with h; exact h ▸ h4
  | 5, h => injection h with h; exact h ▸ h5
  | 6, h => injection h with h; exact h ▸ h6
  | j + 7, h => simp at h
theorem kept_cells {W w' : World} {n : Nat} (hk : ∀ b, n ≤ b → b < W.heap.size → w'.heap[b]? = W.heap[b]?) : (∀ b o, n ≤ b → b < W.heap.size → w'.cell? ⟨b, o, none⟩ = W.cell? ⟨b, o, none⟩) ∧ ∀ b o, n ≤ b → b < W.heap.size → w'.frozen? ⟨b, o, none⟩ = W.frozen? ⟨b, o, none⟩ :=
  ⟨fun b o h1 h2 => World.cell?_of_block (a := ⟨b, o, none⟩) (hk b h1 h2), fun b o h1 h2 => World.frozen?_of_block (a := ⟨b, o, none⟩) (hk b h1 h2)⟩
theorem tStepS_get (l : DStepS) (k : Nat) (hk : k < l.length) : tStep l[k] ≤ tStepS l := by
  have h1 := tStepS_snoc (l.take k) l[k]
  rw [← List.take_succ_eq_append_getElem hk] at h1
  have := tStepS_take l (k + 1)
  omega
end Go.Proofs.Ytjkbecgenjhaaaa
