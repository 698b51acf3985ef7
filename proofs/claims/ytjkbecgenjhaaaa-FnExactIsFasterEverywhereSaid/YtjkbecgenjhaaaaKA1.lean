/-
  Texts of a proof, one behind another: Mem, Open, Data, Opens, Sz, To, Eq, Mark, Held, Cn, Grow, DwA, DwB, DwC, DwD, DwE.
-/
import Derived.WalkKit
import Derived.WalkSpells
import Derived.WalkLawsBesides
import Derived.BigQuiet
import Derived.Deep.QuietTactic
import Derived.Lib.Hide
import Derived.StillTailTactics
import Derived.ProofKit
import Derived.Deep.Slices
import Derived.Test.YtjkbecgenjhaaaaProg
import Derived.Test.YtjkbecgenjhaaaaRows
import Derived.Maps.AppendAt
import Derived.IntWalk
set_option linter.all false
/-
  Memory as data: representation predicates for values that live in the heap, with footprints; what a call leaves as it was.
  No program here: worlds, cells and lists only.
-/
namespace Go.Proofs.Ytjkbecgenjhaaaa
open Go.RowKit

/-- A store of any value of one cell. -/
@[go_sem] theorem run_store_cell {P : Program} {w : World} {a : Addr} {m : Mode} {v : Value} (hv : v.oneCell' = true) : (store a v m).run P w = stored P w a v m := run_store P w a v m hv

/-- A 64-bit integer. -/
def I64 (a : Int) : Prop := -9223372036854775808 ≤ a ∧ a ≤ 9223372036854775807

/-- How data of a type lie in cells. 'rep w cs a fp': the cells cs hold a, its parts in the blocks fp. -/
structure Rp (α : Type) where
  size : Nat
  rep : World → List Value → α → List Nat → Prop
  len : ∀ {w cs a fp}, rep w cs a fp → cs.length = size
  lt : ∀ {w cs a fp}, rep w cs a fp → ∀ b ∈ fp, b < w.heap.size
  frame : ∀ {w w' cs a fp}, rep w cs a fp → (∀ b ∈ fp, w'.heap[b]? = w.heap[b]?) → rep w' cs a fp
  one : ∀ {w cs a fp}, rep w cs a fp → ∀ v ∈ cs, v.oneCell' = true

theorem lt_of_heap {w : World} {b : Nat} {o : Obj} (h : w.heap[b]? = some o) : b < w.heap.size := (Array.getElem?_eq_some_iff.1 h).1
theorem cell_lt {w : World} {b o : Nat} {v : Value} (h : w.cell? ⟨b, o, none⟩ = some v) : b < w.heap.size := World.block_lt_of_cell? w ⟨b, o, none⟩ h
theorem cell_frame {w w' : World} {b o : Nat} (h : w'.heap[b]? = w.heap[b]?) : w'.cell? ⟨b, o, none⟩ = w.cell? ⟨b, o, none⟩ := World.cell?_of_block (a := ⟨b, o, none⟩) h

def Rp.int : Rp Int where
  size := 1
  rep _ cs a fp := cs = [.int .i64 a] ∧ fp = [] ∧ I64 a
  len h := by rw [h.1]; rfl
  lt h b hb := by rw [h.2.1] at hb; cases hb
  frame h _ := h
  one h v hv := by rw [h.1] at hv; simp at hv; subst hv; rfl

def Rp.bool : Rp Bool where
  size := 1
  rep _ cs a fp := cs = [.bool a] ∧ fp = []
  len h := by rw [h.1]; rfl
  lt h b hb := by rw [h.2] at hb; cases hb
  frame h _ := h
  one h v hv := by rw [h.1] at hv; simp at hv; subst hv; rfl

def Rp.prod {α β : Type} (A : Rp α) (B : Rp β) : Rp (α × β) where
  size := A.size + B.size
  rep w cs a fp := ∃ c1 c2 f1 f2, cs = c1 ++ c2 ∧ fp = f1 ++ f2 ∧ A.rep w c1 a.1 f1 ∧ B.rep w c2 a.2 f2
  len h := by
    obtain ⟨c1, c2, f1, f2, rfl, rfl, h1, h2⟩ := h
    rw [List.length_append, A.len h1, B.len h2]
  lt h b hb := by
    obtain ⟨c1, c2, f1, f2, rfl, rfl, h1, h2⟩ := h
    rcases List.mem_append.1 hb with hb | hb
    · exact A.lt h1 b hb
    · exact B.lt h2 b hb
  frame h hf := by
    obtain ⟨c1, c2, f1, f2, rfl, rfl, h1, h2⟩ := h
    exact ⟨c1, c2, f1, f2, rfl, rfl, A.frame h1 (fun b hb => hf b (List.mem_append.2 (.inl hb))), B.frame h2 (fun b hb => hf b (List.mem_append.2 (.inr hb)))⟩
  one h v hv := by
    obtain ⟨c1, c2, f1, f2, rfl, rfl, h1, h2⟩ := h
    rcases List.mem_append.1 hv with hv | hv
    · exact A.one h1 v hv
    · exact B.one h2 v hv

/-- The elements of a list, one behind the other, from cell 'off' of block b on; 'fps': each element's own blocks. -/
def Elems {α : Type} (A : Rp α) (w : World) (b off : Nat) (l : List α) (fps : List (List Nat)) : Prop :=
  fps.length = l.length ∧ ∀ i x, l[i]? = some x → ∃ f cs, fps[i]? = some f ∧ A.rep w cs x f ∧ ∀ j v, cs[j]? = some v → w.cell? ⟨b, off + i * A.size + j, none⟩ = some v

def Rp.slice {α : Type} (A : Rp α) (pos : 0 < A.size) : Rp (List α) where
  size := 1
  rep w cs l fp := ∃ ad c, cs = [.slice ad l.length c] ∧ l.length ≤ c ∧ c ≤ maxLen ∧
    ((l = [] ∧ fp = []) ∨ ∃ b off fps, l ≠ [] ∧ ad = some ⟨b, off, none⟩ ∧ fp = b :: fps.flatten ∧ Elems A w b off l fps)
  len h := by obtain ⟨ad, c, rfl, _⟩ := h; rfl
  lt := fun {w cs l fp} h k hk => by
    obtain ⟨ad, c, _, _, _, ⟨_, rfl⟩ | ⟨b, off, fps, hl, _, rfl, hlen, he⟩⟩ := h
    · cases hk
    · rcases List.mem_cons.1 hk with rfl | hk
      · match l, hl, he with
        | x :: l, _, he =>
          obtain ⟨f, cs, _, hr, hc⟩ := he 0 x rfl
          have hcl := A.len hr
          have : cs[0]? = some (cs[0]'(by omega)) := List.getElem?_eq_getElem (by omega)
          exact cell_lt (hc 0 _ this)
      · obtain ⟨f, hf, hkf⟩ := List.mem_flatten.1 hk
        obtain ⟨i, hi, hfi⟩ := List.getElem_of_mem hf
        have hx : l[i]? = some (l[i]'(by omega)) := List.getElem?_eq_getElem (by omega)
        obtain ⟨f', cs, hf', hr, _⟩ := he i _ hx
        rw [List.getElem?_eq_getElem hi, hfi] at hf'
        injection hf' with hf'
        subst hf'
        exact A.lt hr k hkf
  frame h hf := by
    obtain ⟨ad, c, h1, h2, h3, h4⟩ := h
    refine ⟨ad, c, h1, h2, h3, ?_⟩
    rcases h4 with h4 | ⟨b, off, fps, hl, ha, rfl, hlen, he⟩
    · exact .inl h4
    · refine .inr ⟨b, off, fps, hl, ha, rfl, hlen, fun i x hx => ?_⟩
      obtain ⟨f, cs, hfi, hr, hc⟩ := he i x hx
      refine ⟨f, cs, hfi, A.frame hr (fun k hk => hf k (List.mem_cons_of_mem _ (List.mem_flatten.2 ⟨f, List.mem_of_getElem? hfi, hk⟩))), fun j v hv => ?_⟩
      rw [cell_frame (hf b List.mem_cons_self)]
      exact hc j v hv
  one h v hv := by obtain ⟨ad, c, rfl, _⟩ := h; simp at hv; subst hv; rfl

/-- The cells hold the data. -/
def Has {α : Type} (A : Rp α) (w : World) (cs : List Value) (a : α) : Prop := ∃ fp, A.rep w cs a fp
theorem Has.below {α : Type} {A : Rp α} {w w' : World} {cs : List Value} {a : α} (h : Has A w cs a) (hb : Below w.heap.size w w') : Has A w' cs a :=
  let ⟨fp, hr⟩ := h; ⟨fp, A.frame hr fun b hb' => hb.block b (A.lt hr b hb')⟩

/-- A block of cells of the call's own, none frozen. -/
def Free (w : World) (b : Nat) : Prop := ∃ cs e, w.heap[b]? = some (.cells cs e (0, 0))
theorem Free.lt {w : World} {b : Nat} (h : Free w b) : b < w.heap.size := by obtain ⟨cs, e, h⟩ := h; exact lt_of_heap h
theorem Free.frame {w w' : World} {b : Nat} (h : Free w b) (hf : w'.heap[b]? = w.heap[b]?) : Free w' b := by obtain ⟨cs, e, h⟩ := h; exact ⟨cs, e, hf.trans h⟩

/-- The data lie in memory of their own, from block 'base' on: no two parts share a block. -/
def OwnFp (base : Nat) (w : World) (fp : List Nat) : Prop := fp.Nodup ∧ ∀ b ∈ fp, base ≤ b ∧ Free w b
def Own {α : Type} (A : Rp α) (base : Nat) (w : World) (cs : List Value) (a : α) : Prop := ∃ fp, A.rep w cs a fp ∧ OwnFp base w fp
theorem Own.has {α : Type} {A : Rp α} {base : Nat} {w : World} {cs : List Value} {a : α} (h : Own A base w cs a) : Has A w cs a := let ⟨fp, hr, _⟩ := h; ⟨fp, hr⟩
theorem Own.below {α : Type} {A : Rp α} {base : Nat} {w w' : World} {cs : List Value} {a : α} (h : Own A base w cs a) (hb : Below w.heap.size w w') : Own A base w' cs a :=
  let ⟨fp, hr, hn, ho⟩ := h
  ⟨fp, A.frame hr fun b hb' => hb.block b (A.lt hr b hb'), hn, fun b hb' => ⟨(ho b hb').1, (ho b hb').2.frame (hb.block b (A.lt hr b hb'))⟩⟩
theorem Own.mono {α : Type} {A : Rp α} {base base' : Nat} {w : World} {cs : List Value} {a : α} (h : Own A base w cs a) (hb : base' ≤ base) : Own A base' w cs a :=
  let ⟨fp, hr, hn, ho⟩ := h
  ⟨fp, hr, hn, fun b hb' => ⟨Nat.le_trans hb (ho b hb').1, (ho b hb').2⟩⟩

/-- All cells and marks below B read as before. -/
theorem bcell {B : Nat} {W w1 : World} (hb : Below B W w1) : (∀ b o, b < B → w1.cell? ⟨b, o, none⟩ = W.cell? ⟨b, o, none⟩) ∧ (∀ b o, b < B → w1.frozen? ⟨b, o, none⟩ = W.frozen? ⟨b, o, none⟩) :=
  ⟨fun b o h => hb.cell (p := ⟨b, o, none⟩) h, fun b o h => hb.frozen (p := ⟨b, o, none⟩) h⟩

theorem _root_.Go.RowKit.Below.drewN {B : Nat} {a w : World} (h : Below B a w) (n : Nat) : Below B a (w.drewN n) := ⟨h.os, h.tape, h.output, h.size, h.block⟩

theorem Below.up {B : Nat} {w w0 w1 : World} (h0 : Below B w w0) (h : Below w0.heap.size w0 w1) (hB : B ≤ w0.heap.size) : Below B w w1 := h0.trans (h.mono hB)

theorem Has.split {α β : Type} {A : Rp α} {B : Rp β} {w : World} {x : α × β} (c1 c2 : List Value) (hl : c1.length = A.size) (h : Has (Rp.prod A B) w (c1 ++ c2) x) : Has A w c1 x.1 ∧ Has B w c2 x.2 := by
  obtain ⟨fp, d1, d2, f1, f2, hc, _, h1, h2⟩ := h
  have hd := A.len h1
  have : c1 = d1 ∧ c2 = d2 := List.append_inj hc (by omega)
  obtain ⟨rfl, rfl⟩ := this
  exact ⟨⟨f1, h1⟩, ⟨f2, h2⟩⟩

theorem Has.len_slice {α : Type} {A : Rp α} {p : 0 < A.size} {w : World} {v : Value} {l : List α} (h : Has (Rp.slice A p) w [v] l) : ∃ ad c, v = .slice ad l.length c ∧ l.length ≤ c ∧ c ≤ maxLen := by
  obtain ⟨fp, ad, c, h1, h2, h3, h4⟩ := h
  injection h1 with h1
  exact ⟨ad, c, h1, h2, h3⟩

theorem Has.elems {α : Type} {A : Rp α} {p : 0 < A.size} {w : World} {v : Value} {l : List α} (h : Has (Rp.slice A p) w [v] l) :
    ∃ ad c, v = .slice ad l.length c ∧ l.length ≤ c ∧ c ≤ maxLen ∧ ∀ i (hi : i < l.length), ∃ b off cs, ad = some ⟨b, off, none⟩ ∧ b < w.heap.size ∧ Has A w cs l[i] ∧ ∀ j u, cs[j]? = some u → w.cell? ⟨b, off + i * A.size + j, none⟩ = some u := by
  obtain ⟨fp, ad, c, h1, h2, h3, h4⟩ := h
  injection h1 with h1
  refine ⟨ad, c, h1, h2, h3, fun i hi => ?_⟩
  rcases h4 with ⟨rfl, _⟩ | ⟨b, off, fps, hl, ha, hfp, hlen, he⟩
  · simp at hi
  · obtain ⟨f, cs, _, hr, hc⟩ := he i l[i] (List.getElem?_eq_getElem hi)
    have hcl := A.len hr
    have h0 : cs[0]? = some (cs[0]'(by omega)) := List.getElem?_eq_getElem (by omega)
    exact ⟨b, off, cs, ha, cell_lt (hc 0 _ h0), ⟨f, hr⟩, hc⟩

theorem Has.len {α : Type} {A : Rp α} {w : World} {cs : List Value} {a : α} (h : Has A w cs a) : cs.length = A.size := let ⟨_, hr⟩ := h; A.len hr
theorem Has.one {α : Type} {A : Rp α} {w : World} {cs : List Value} {a : α} (h : Has A w cs a) (i : Nat) (v : Value) (hv : cs[i]? = some v) : v.oneCell' = true := let ⟨_, hr⟩ := h; A.one hr v (List.mem_of_getElem? hv)
theorem Has.cast {α : Type} {A : Rp α} {w : World} {cs : List Value} {a b : α} (h : Has A w cs a) (e : a = b) : Has A w cs b := e ▸ h
theorem Has.int {w : World} {v : Value} {a : Int} (h : Has Rp.int w [v] a) : v = .int .i64 a ∧ I64 a := by
  obtain ⟨fp, h1, _, h3⟩ := h
  injection h1 with h1
  exact ⟨h1, h3⟩
theorem Has.bool {w : World} {v : Value} {a : Bool} (h : Has Rp.bool w [v] a) : v = .bool a := by
  obtain ⟨fp, h1, _⟩ := h
  injection h1 with h1
theorem Own.int (base : Nat) (w : World) {a : Int} (h : I64 a) : Own Rp.int base w [.int .i64 a] a := ⟨[], ⟨rfl, rfl, h⟩, List.nodup_nil, fun _ hb => by cases hb⟩
theorem Own.bool (base : Nat) (w : World) (a : Bool) : Own Rp.bool base w [.bool a] a := ⟨[], ⟨rfl, rfl⟩, List.nodup_nil, fun _ hb => by cases hb⟩
/-- The same with an upper end: the blocks from lo up to hi. -/
def OwnIn {α : Type} (A : Rp α) (lo hi : Nat) (w : World) (cs : List Value) (a : α) : Prop := ∃ fp, A.rep w cs a fp ∧ fp.Nodup ∧ ∀ b ∈ fp, lo ≤ b ∧ b < hi ∧ Free w b
section
variable {α β : Type} {A : Rp α} {B : Rp β} {lo hi lo2 hi2 : Nat} {w w' : World} {cs c1 c2 : List Value} {a : α} {b : β}
theorem Own.inn (h : Own A lo w cs a) : OwnIn A lo w.heap.size w cs a := let ⟨fp, hr, hn, ho⟩ := h; ⟨fp, hr, hn, fun b hb => ⟨(ho b hb).1, A.lt hr b hb, (ho b hb).2⟩⟩
theorem OwnIn.own (h : OwnIn A lo hi w cs a) (hl : lo2 ≤ lo) : Own A lo2 w cs a := let ⟨fp, hr, hn, ho⟩ := h; ⟨fp, hr, hn, fun b hb => ⟨Nat.le_trans hl (ho b hb).1, (ho b hb).2.2⟩⟩
theorem OwnIn.frame (h : OwnIn A lo hi w cs a) (hf : ∀ b, lo ≤ b → b < hi → w'.heap[b]? = w.heap[b]?) : OwnIn A lo hi w' cs a :=
  let ⟨fp, hr, hn, ho⟩ := h
  ⟨fp, A.frame hr fun b hb => hf b (ho b hb).1 (ho b hb).2.1, hn, fun b hb => ⟨(ho b hb).1, (ho b hb).2.1, (ho b hb).2.2.frame (hf b (ho b hb).1 (ho b hb).2.1)⟩⟩
theorem OwnIn.below {K : Nat} (h : OwnIn A lo hi w cs a) (hb : Below K w w') (hK : hi ≤ K) : OwnIn A lo hi w' cs a := h.frame fun b _ h2 => hb.block b (by omega)
theorem OwnIn.setCell (h : OwnIn A lo hi w cs a) {p : Addr} (hp : p.block < lo ∨ hi ≤ p.block) (v : Value) : OwnIn A lo hi (w.setCell p v) cs a :=
  h.frame fun b _ _ => Below.heap_setCell _ _ _ _ (by omega)
theorem OwnIn.pair (h1 : OwnIn A lo hi w c1 a) (h2 : OwnIn B lo2 hi2 w c2 b) (hm : hi ≤ lo2) (hl : lo ≤ lo2) (hh : hi ≤ hi2) : OwnIn (Rp.prod A B) lo hi2 w (c1 ++ c2) (a, b) := by
  obtain ⟨f1, r1, n1, o1⟩ := h1
  obtain ⟨f2, r2, n2, o2⟩ := h2
  refine ⟨f1 ++ f2, ⟨c1, c2, f1, f2, rfl, rfl, r1, r2⟩, ?_, ?_⟩
  · rw [List.nodup_append]
    refine ⟨n1, n2, fun x hx y hy e => ?_⟩
    have := (o1 x hx).2.1
    have := (o2 y hy).1
    omega
  · intro k hk
    rcases List.mem_append.1 hk with hk | hk
    · exact ⟨(o1 k hk).1, Nat.lt_of_lt_of_le (o1 k hk).2.1 hh, (o1 k hk).2.2⟩
    · exact ⟨Nat.le_trans hl (o2 k hk).1, (o2 k hk).2⟩
theorem OwnIn.int (k : Nat) (w : World) {n : Int} (h : I64 n) : OwnIn Rp.int k k w [.int .i64 n] n := ⟨[], ⟨rfl, rfl, h⟩, List.nodup_nil, fun _ hb => by cases hb⟩
theorem OwnIn.bool (k : Nat) (w : World) (t : Bool) : OwnIn Rp.bool k k w [.bool t] t := ⟨[], ⟨rfl, rfl⟩, List.nodup_nil, fun _ hb => by cases hb⟩
end

/-- Cells stored one behind the other. -/
def putCells (w : World) (g o : Nat) : List Value → World
  | [] => w
  | c :: cs => putCells (w.setCell ⟨g, o, none⟩ c) g (o + 1) cs
theorem putCells_other (g : Nat) (cs : List Value) : ∀ (w : World) (o k : Nat), k ≠ g → (putCells w g o cs).heap[k]? = w.heap[k]? := by
  induction cs with
  | nil => intro w o k _; rfl
  | cons c cs ih => intro w o k hk; exact (ih _ _ _ hk).trans (Below.heap_setCell _ _ _ _ (by exact hk))
theorem putCells_size (g : Nat) (cs : List Value) : ∀ (w : World) (o : Nat), (putCells w g o cs).heap.size = w.heap.size := by
  induction cs with
  | nil => intro w o; rfl
  | cons c cs ih => intro w o; exact (ih _ _).trans (World.size_setCell ..)
theorem putCells_below {B : Nat} {w0 : World} (g : Nat) (cs : List Value) : ∀ (w : World) (o : Nat), Below B w0 w → B ≤ g → Below B w0 (putCells w g o cs) := by
  induction cs with
  | nil => intro w o h _; exact h
  | cons c cs ih => intro w o h hg; exact ih _ _ (h.setCell (p := ⟨g, o, none⟩) hg c) hg
theorem heap_setCell_row {w : World} {g o : Nat} {cur : Array Value} {e : TypeId} (h : w.heap[g]? = some (.cells cur e (0, 0))) (v : Value) : (w.setCell ⟨g, o, none⟩ v).heap[g]? = some (.cells (cur.setIfInBounds o v) e (0, 0)) := by
  simp [World.setCell, Array.getElem?_modify, h]
/-- What the row holds behind the stores. -/
theorem putCells_row (g : Nat) (e : TypeId) (cs : List Value) : ∀ (w : World) (o : Nat) (cur : Array Value), w.heap[g]? = some (.cells cur e (0, 0)) → o + cs.length ≤ cur.size →
    ∃ cur', (putCells w g o cs).heap[g]? = some (.cells cur' e (0, 0)) ∧ cur'.size = cur.size ∧ (∀ j v, cs[j]? = some v → cur'[o + j]? = some v) ∧ ∀ i, i < o ∨ o + cs.length ≤ i → cur'[i]? = cur[i]? := by
  induction cs with
  | nil => intro w o cur h _; exact ⟨cur, h, rfl, fun j v hj => by simp at hj, fun i _ => rfl⟩
  | cons c cs ih =>
    intro w o cur h hl
    simp only [List.length_cons] at hl
    obtain ⟨cur', h1, h2, h3, h4⟩ := ih (w.setCell ⟨g, o, none⟩ c) (o + 1) _ (heap_setCell_row h c) (by simp; omega)
    refine ⟨cur', h1, by rw [h2]; simp, fun j v hj => ?_, fun i hi => ?_⟩
    · cases j with
      | zero =>
        simp at hj
        subst hj
        rw [h4 _ (by omega)]
        simp only [Nat.add_zero]
        rw [Array.getElem?_setIfInBounds_self_of_lt (by omega)]
      | succ j =>
        have := h3 j v (by simpa using hj)
        rw [← this]
        congr 1
        omega
    · simp only [List.length_cons] at hi
      rw [h4 i (by omega), Array.getElem?_setIfInBounds_ne (by omega)]

/-- A row of the call's own, of n elements, of which the first are made. -/
def Made {α : Type} (A : Rp α) (w : World) (g n : Nat) (e : TypeId) (l : List α) : Prop :=
  ∃ cur fps, w.heap[g]? = some (.cells cur e (0, 0)) ∧ cur.size = n * A.size ∧ l.length ≤ n ∧ Elems A w g 0 l fps ∧ fps.flatten.Nodup ∧ ∀ b ∈ fps.flatten, g < b ∧ Free w b
section
variable {α : Type} {A : Rp α} {w w' : World} {g n : Nat} {e : TypeId} {l : List α}
theorem Made.start {zs : List Value} {base : Nat} (h : w.ownsRow base e A.size (.slice (some ⟨g, 0, none⟩) n n) n zs) : Made A w g n e ([] : List α) := by
  rcases h.2 with ⟨h1, _⟩ | ⟨g', cap, cur, hv, _, hg, _, _, hs, _⟩
  · cases h1
  · injection hv with h1 h2 h3
    injection h1 with h1
    injection h1 with h1
    subst h1 h3
    exact ⟨cur, [], hg, hs, Nat.zero_le _, ⟨rfl, fun i x hx => by simp at hx⟩, by simp, fun b hb => by simp at hb⟩
theorem Made.cell (h : Made A w g n e l) (o : Nat) (ho : o < n * A.size) : ∃ v, w.cell? ⟨g, o, none⟩ = some v := by
  obtain ⟨cur, _, hg, hs, _⟩ := h
  exact ⟨cur[o]'(by omega), by rw [cell_of_row w g o cur e (0, 0) hg]; exact Array.getElem?_eq_getElem (by omega)⟩
theorem Made.frozen (h : Made A w g n e l) (o : Nat) : w.frozen? ⟨g, o, none⟩ = false := by
  obtain ⟨cur, _, hg, _⟩ := h
  exact frozen_of_row w g o cur e hg
theorem Made.lt (h : Made A w g n e l) : g < w.heap.size := by obtain ⟨_, _, hg, _⟩ := h; exact lt_of_heap hg
theorem Made.below (h : Made A w g n e l) (hb : Below w.heap.size w w') : Made A w' g n e l := by
  obtain ⟨cur, fps, hg, hs, hl, he, hn, ho⟩ := h
  have hlt : g < w.heap.size := lt_of_heap hg
  refine ⟨cur, fps, (hb.block g hlt).trans hg, hs, hl, ⟨he.1, fun i x hx => ?_⟩, hn, fun b hb' => ⟨(ho b hb').1, (ho b hb').2.frame (hb.block b (ho b hb').2.lt)⟩⟩
  obtain ⟨f, cs, hf, hr, hc⟩ := he.2 i x hx
  exact ⟨f, cs, hf, A.frame hr fun b hb' => hb.block b (A.lt hr b hb'), fun j v hv => by rw [cell_frame (hb.block g hlt)]; exact hc j v hv⟩
/-- The next element is made and stored. -/
theorem Made.step {w1 : World} {x : α} {cs : List Value} (h : Made A w g n e l) (hb : Below w.heap.size w w1) (hx : Own A w.heap.size w1 cs x) (hln : l.length < n) :
    Made A (putCells w1 g (l.length * A.size) cs) g n e (l ++ [x]) := by
  obtain ⟨cur, fps, hg, hs, _, he, hnd, ho⟩ := h
  obtain ⟨fx, rx, nx, ox⟩ := hx
  have hgl : g < w.heap.size := lt_of_heap hg
  have hcl := A.len rx
  have hm : (l.length + 1) * A.size ≤ n * A.size := Nat.mul_le_mul_right _ hln
  have hm' : (l.length + 1) * A.size = l.length * A.size + A.size := Nat.succ_mul _ _
  obtain ⟨cur', g1, g2, g3, g4⟩ := putCells_row g e cs w1 (l.length * A.size) cur ((hb.block g hgl).trans hg) (by omega)
  have oth : ∀ k, k ≠ g → (putCells w1 g (l.length * A.size) cs).heap[k]? = w1.heap[k]? := fun k hk => putCells_other g cs w1 _ k hk
  refine ⟨cur', fps ++ [fx], g1, by omega, by simp; omega, ⟨by simp [he.1], fun i y hy => ?_⟩, ?_, ?_⟩
  · rcases Nat.lt_or_ge i l.length with hi | hi
    · rw [List.getElem?_append_left hi] at hy
      obtain ⟨f, c, hf, hr, hc⟩ := he.2 i y hy
      have hil : i < fps.length := by rw [he.1]; exact hi
      refine ⟨f, c, by rw [List.getElem?_append_left hil]; exact hf, A.frame hr fun b hbf => ?_, fun j v hv => ?_⟩
      · have hmem : b ∈ fps.flatten := List.mem_flatten.2 ⟨f, List.mem_of_getElem? hf, hbf⟩
        rw [oth b (by have := (ho b hmem).1; omega)]
        exact hb.block b (A.lt hr b hbf)
      · have hj : j < A.size := by rw [← A.len hr]; exact (List.getElem?_eq_some_iff.1 hv).1
        have hi2 : (i + 1) * A.size ≤ l.length * A.size := Nat.mul_le_mul_right _ hi
        have hi3 : (i + 1) * A.size = i * A.size + A.size := Nat.succ_mul _ _
        have h1 := hc j v hv
        rw [cell_of_row w g _ cur e (0, 0) hg] at h1
        rw [cell_of_row _ g _ cur' e (0, 0) g1, g4 _ (by omega)]
        exact h1
    · have hi' : i = l.length := by
        have := (List.getElem?_eq_some_iff.1 hy).1
        simp at this
        omega
      subst hi'
      simp at hy
      subst hy
      refine ⟨fx, cs, by rw [← he.1]; simp, A.frame rx fun b hbf => oth b (by have := (ox b hbf).1; omega), fun j v hv => ?_⟩
      rw [cell_of_row _ g _ cur' e (0, 0) g1, ← g3 j v hv]
      congr 1
      omega
  · rw [List.flatten_append, List.nodup_append]
    refine ⟨hnd, by simpa using nx, fun p hp q hq e => ?_⟩
    have := (ho p hp).2.lt
    have := (ox q (by simpa using hq)).1
    omega
  · intro b hb'
    rw [List.flatten_append, List.mem_append] at hb'
    rcases hb' with hb' | hb'
    · have h1 := ho b hb'
      exact ⟨h1.1, h1.2.frame ((oth b (by omega)).trans (hb.block b h1.2.lt))⟩
    · have h1 := ox b (by simpa using hb')
      exact ⟨by omega, h1.2.frame (oth b (by omega))⟩
theorem Made.own {p : 0 < A.size} (h : Made A w g n e l) (hl : l.length = n) (hn : n ≤ maxLen) {base : Nat} (hb : base ≤ g) : Own (Rp.slice A p) base w [.slice (some ⟨g, 0, none⟩) n n] l := by
  obtain ⟨cur, fps, hg, hs, _, he, hnd, ho⟩ := h
  by_cases hl0 : l = []
  · subst hl0
    refine ⟨[], ⟨_, n, by rw [hl], by omega, hn, .inl ⟨rfl, rfl⟩⟩, List.nodup_nil, fun b hb => by cases hb⟩
  · refine ⟨g :: fps.flatten, ⟨_, n, by rw [hl], by omega, hn, .inr ⟨g, 0, fps, hl0, rfl, rfl, he⟩⟩, List.nodup_cons.2 ⟨fun hm => by have := (ho g hm).1; omega, hnd⟩, fun b hb' => ?_⟩
    rcases List.mem_cons.1 hb' with rfl | hb'
    · exact ⟨hb, cur, e, hg⟩
    · exact ⟨by have := (ho b hb').1; omega, (ho b hb').2⟩
end

/-- Beside the blocks fp nothing that was there has turned. -/
structure Upto (fp : List Nat) (w w' : World) : Prop where
  os : w'.os = w.os
  tape : w'.tape = w.tape
  output : w'.output = w.output
  size : w.heap.size ≤ w'.heap.size
  block : ∀ k, k < w.heap.size → k ∉ fp → w'.heap[k]? = w.heap[k]?
  free : ∀ k ∈ fp, Free w k → Free w' k
section
variable {fp fq : List Nat} {w w1 w2 : World}
theorem Upto.refl (fp : List Nat) (w : World) : Upto fp w w := ⟨rfl, rfl, rfl, Nat.le_refl _, fun _ _ _ => rfl, fun _ _ h => h⟩
theorem Upto.trans (h : Upto fp w w1) (k : Upto fp w1 w2) : Upto fp w w2 :=
  ⟨k.os.trans h.os, k.tape.trans h.tape, k.output.trans h.output, Nat.le_trans h.size k.size, fun i hi hn => (k.block i (Nat.lt_of_lt_of_le hi h.size) hn).trans (h.block i hi hn), fun i hi hf => k.free i hi (h.free i hi hf)⟩
theorem Upto.mono (h : Upto fp w w1) (hs : ∀ b ∈ fp, b ∈ fq) : Upto fq w w1 :=
  ⟨h.os, h.tape, h.output, h.size, fun i hi hn => h.block i hi (fun hm => hn (hs i hm)), fun i _ hf => by
    by_cases hm : i ∈ fp
    · exact h.free i hm hf
    · exact hf.frame (h.block i hf.lt hm)⟩
theorem Upto.of_below {B : Nat} (h : Below B w w1) (hB : w.heap.size ≤ B) : Upto fp w w1 :=
  ⟨h.os, h.tape, h.output, h.size, fun i hi _ => h.block i (by omega), fun i _ hf => hf.frame (h.block i (by have := hf.lt; omega))⟩
theorem Upto.below {B : Nat} (h : Upto fp w w1) (hf : ∀ b ∈ fp, B ≤ b) (hB : B ≤ w.heap.size) : Below B w w1 :=
  ⟨h.os, h.tape, h.output, h.size, fun i hi => h.block i (by omega) (fun hm => by have := hf i hm; omega)⟩
theorem Free.setCell {b : Nat} (h : Free w b) (p : Addr) (v : Value) : Free (w.setCell p v) b := by
  obtain ⟨cs, e, h⟩ := h
  by_cases hp : b = p.block
  · subst hp
    simp [Free, World.setCell, Array.getElem?_modify, h]
  · exact ⟨cs, e, (Below.heap_setCell _ _ _ _ hp).trans h⟩
theorem Upto.setCell (h : Upto fp w w1) {p : Addr} (hp : p.block ∈ fp) (v : Value) : Upto fp w (w1.setCell p v) :=
  h.trans ⟨rfl, rfl, rfl, by simp [World.setCell], fun k _ hk => Below.heap_setCell _ _ _ _ (fun e => hk (e ▸ hp)), fun k _ hf => hf.setCell p v⟩
theorem Upto.cell (h : Upto fp w w1) {b : Nat} (hb : b < w.heap.size) (hn : b ∉ fp) (o : Nat) : w1.cell? ⟨b, o, none⟩ = w.cell? ⟨b, o, none⟩ := cell_frame (h.block b hb hn)
theorem Upto.frozen (h : Upto fp w w1) {b : Nat} (hb : b < w.heap.size) (hn : b ∉ fp) (o : Nat) : w1.frozen? ⟨b, o, none⟩ = w.frozen? ⟨b, o, none⟩ := World.frozen?_of_block (a := ⟨b, o, none⟩) (h.block b hb hn)
theorem Rp.upto {α : Type} {A : Rp α} {cs : List Value} {a : α} {f : List Nat} (hr : A.rep w cs a f) (h : Upto fp w w1) (hd : ∀ b ∈ f, b ∉ fp) : A.rep w1 cs a f :=
  A.frame hr fun b hb => h.block b (A.lt hr b hb) (hd b hb)
theorem rep_split {α β : Type} {A : Rp α} {B : Rp β} {x : α × β} {fp : List Nat} (c1 c2 : List Value) (hl : c1.length = A.size) (h : (Rp.prod A B).rep w (c1 ++ c2) x fp) : ∃ f1 f2, fp = f1 ++ f2 ∧ A.rep w c1 x.1 f1 ∧ B.rep w c2 x.2 f2 := by
  obtain ⟨d1, d2, f1, f2, hc, hf, h1, h2⟩ := h
  have hd := A.len h1
  have : c1 = d1 ∧ c2 = d2 := List.append_inj hc (by omega)
  obtain ⟨rfl, rfl⟩ := this
  exact ⟨f1, f2, hf, h1, h2⟩
theorem rep_pair {α β : Type} {A : Rp α} {B : Rp β} {a : α} {b : β} {f1 f2 : List Nat} {c1 c2 : List Value} (h1 : A.rep w c1 a f1) (h2 : B.rep w c2 b f2) : (Rp.prod A B).rep w (c1 ++ c2) (a, b) (f1 ++ f2) := ⟨c1, c2, f1, f2, rfl, rfl, h1, h2⟩
end
theorem Free.frozen {w : World} {b : Nat} (h : Free w b) (o : Nat) : w.frozen? ⟨b, o, none⟩ = false := by obtain ⟨cs, e, h⟩ := h; exact frozen_of_row w b o cs e h
theorem setCell_out {w : World} {b o p : Nat} (v : Value) (h : o ≠ p) : (w.setCell ⟨b, p, none⟩ v).cell? ⟨b, o, none⟩ = w.cell? ⟨b, o, none⟩ := World.cell?_setCell_other w _ _ v (fun e => h (by injection e with _ e; exact e.symm))
theorem cells_nil {P : Nat → Value → Prop} : ∀ j v, ([] : List Value)[j]? = some v → P j v := fun j v h => by simp at h
theorem cells_cons {P : Nat → Value → Prop} {c : Value} {cs : List Value} (h0 : P 0 c) (h : ∀ j v, cs[j]? = some v → P (j + 1) v) : ∀ j v, (c :: cs)[j]? = some v → P j v := fun j v hv => by
  cases j with
  | zero => simp at hv; subst hv; exact h0
  | succ j => exact h j v (by simpa using hv)
theorem rep_cast {α : Type} {A : Rp α} {w : World} {cs : List Value} {a b : α} {f : List Nat} (h : A.rep w cs a f) (e : a = b) : A.rep w cs b f := e ▸ h
theorem rep_int {w : World} {p q : Int} (f : List Nat) (e : p = q) (h : I64 q) (hf : f = [] := by rfl) : Rp.int.rep w [.int .i64 p] q f := ⟨by rw [e], hf, h⟩
theorem rep_bool {w : World} {p q : Int} (f : List Nat) (e : p = q) (hf : f = [] := by rfl) : Rp.bool.rep w [.bool (p % 3 == 0)] (q % 3 == 0) f := ⟨by rw [e], hf⟩
theorem flat_disj {L : List (List Nat)} (h : L.flatten.Nodup) {i j : Nat} {f g : List Nat} (hf : L[i]? = some f) (hg : L[j]? = some g) (hij : i ≠ j) : ∀ z ∈ g, z ∉ f := by
  have hp := (List.pairwise_flatten.1 h).2
  rw [List.pairwise_iff_getElem] at hp
  obtain ⟨hi, rfl⟩ := List.getElem?_eq_some_iff.1 hf
  obtain ⟨hj, rfl⟩ := List.getElem?_eq_some_iff.1 hg
  intro z hz hzf
  rcases Nat.lt_or_gt_of_ne hij with hlt | hlt
  · exact hp i j hi hj hlt z hzf z hz rfl
  · exact hp j i hj hi hlt z hz z hzf rfl
theorem flat_mem {L : List (List Nat)} {i : Nat} {f : List Nat} (hf : L[i]? = some f) : ∀ z ∈ f, z ∈ L.flatten := fun _ hz => List.mem_flatten.2 ⟨f, List.mem_of_getElem? hf, hz⟩
/-- One element is written anew. -/
theorem Elems.update {α : Type} {A : Rp α} {w w' : World} {b off i : Nat} {l : List α} {fps : List (List Nat)} {x' : α} {cs' : List Value} {f : List Nat} (he : Elems A w b off l fps) (hnd : (b :: fps.flatten).Nodup) (hf : fps[i]? = some f)
    (hr : A.rep w' cs' x' f) (hc : ∀ j v, cs'[j]? = some v → w'.cell? ⟨b, off + i * A.size + j, none⟩ = some v)
    (hoth : ∀ k, k < w.heap.size → k ≠ b → k ∉ f → w'.heap[k]? = w.heap[k]?)
    (hcell : ∀ o, o < off + i * A.size ∨ off + (i + 1) * A.size ≤ o → w'.cell? ⟨b, o, none⟩ = w.cell? ⟨b, o, none⟩) : Elems A w' b off (l.set i x') fps := by
  refine ⟨by simp [he.1], fun e y hy => ?_⟩
  by_cases hei : i = e
  · subst hei
    have hlt := (List.getElem?_eq_some_iff.1 hy).1
    rw [List.getElem?_set_self (by simpa using hlt)] at hy
    injection hy with hy
    subst hy
    exact ⟨f, cs', hf, hr, hc⟩
  · rw [List.getElem?_set_ne hei] at hy
    obtain ⟨g, cs, hg, hrg, hcg⟩ := he.2 e y hy
    rw [List.nodup_cons] at hnd
    refine ⟨g, cs, hg, A.frame hrg fun z hz => hoth z (A.lt hrg z hz) (fun h => hnd.1 (h ▸ flat_mem hg z hz)) (flat_disj hnd.2 hf hg hei z hz), fun j v hv => ?_⟩
    rw [hcell]
    · exact hcg j v hv
    · have hj : j < A.size := by rw [← A.len hrg]; exact (List.getElem?_eq_some_iff.1 hv).1
      rcases Nat.lt_or_gt_of_ne hei with hlt | hlt
      · have := Nat.mul_le_mul_right A.size (show i + 1 ≤ e from hlt)
        omega
      · have h1 := Nat.mul_le_mul_right A.size (show e + 1 ≤ i from hlt)
        rw [Nat.succ_mul] at h1
        omega
def MarkPost {α : Type} (A : Rp α) (cs : List Value) (a : α) (fp : List Nat) (k : Int) (w : World) : Value → World → Prop := fun v w' => v = .int .i64 k ∧ A.rep w' cs a fp ∧ Upto fp w w'
def HeldPost (k : Int) (w : World) : Value → World → Prop := fun v w' => v = .int .i64 k ∧ Below w.heap.size w w'
theorem nodup_app {α : Type} {a b : List α} (h : (a ++ b).Nodup) : a.Nodup ∧ b.Nodup ∧ (∀ x ∈ a, x ∉ b) ∧ ∀ x ∈ b, x ∉ a := by
  rw [List.nodup_append] at h
  exact ⟨h.1, h.2.1, fun x hx hy => h.2.2 x hx x hy rfl, fun x hx hy => h.2.2 x hy x hx rfl⟩

/-- What a size count leaves. -/
def szr (left : Int) (t : Nat) : Int := if (t : Int) ≤ left then left - t else -1
def SzPost (left : Int) (t : Nat) (w : World) : Value → World → Prop := fun v w' => v = .int .i64 (szr left t) ∧ Below w.heap.size w w'
theorem szr_lo (left : Int) (t : Nat) (h : 0 ≤ left) : -1 ≤ szr left t ∧ szr left t ≤ left := by unfold szr; split <;> omega
theorem szr_add (left : Int) (a b : Nat) (h : 0 ≤ szr left a) : szr (szr left a) b = szr left (a + b) := by
  unfold szr at *
  split at h
  · rename_i h1
    simp only [h1, if_true]
    split <;> split <;> omega
  · omega
theorem szr_fail {left : Int} {a b : Nat} (h : szr left a < 0) (hab : a ≤ b) : -1 = szr left b := by
  unfold szr at *
  split at h
  · omega
  · rw [if_neg (by omega)]
theorem szr_lt {left : Int} {t : Nat} (h : left < t) : -1 = szr left t := by unfold szr; rw [if_neg (by omega)]
theorem szr_ge {left : Int} {t : Nat} (h : (t : Int) ≤ left) : left - t = szr left t := by unfold szr; rw [if_pos h]
theorem szr_ok {left : Int} {t : Nat} (h : 0 ≤ szr left t) : (t : Int) ≤ left ∧ szr left t = left - t := by
  unfold szr at *
  split at h
  · rw [if_pos (by omega)]; omega
  · omega
/-- A result of several cells, of one cell, in memory of the call's own; a test of equality. -/
def OwnPost {α : Type} (A : Rp α) (a : α) (w : World) : Value → World → Prop := fun v w' => (∃ cs, v = .agg cs.toArray ∧ Own A w.heap.size w' cs a) ∧ Below w.heap.size w w'
def Own1Post {α : Type} (A : Rp α) (a : α) (w : World) : Value → World → Prop := fun v w' => Own A w.heap.size w' [v] a ∧ Below w.heap.size w w'
noncomputable def eqb {α : Type} (a b : α) : Bool := @decide (a = b) (Classical.propDecidable _)
theorem eqb_true {α : Type} {a b : α} (h : a = b) : eqb a b = true := @decide_eq_true _ (Classical.propDecidable _) h
theorem eqb_false {α : Type} {a b : α} (h : ¬ a = b) : eqb a b = false := @decide_eq_false _ (Classical.propDecidable _) h
def EqPost {α : Type} (a b : α) (w : World) : Value → World → Prop := fun v w' => v = .bool (eqb a b) ∧ Below w.heap.size w w'

/-- What a contract says at the end of a call. -/
def Post (R : Value → World → Prop) (e : Ending) (w' : World) : Prop := ∃ v, e = .returned v ∧ R v w'
end Go.Proofs.Ytjkbecgenjhaaaa

/-
  From the reading of an argument to 'Has': whatever can be read as data of a type of integers, truth values, structs and slices lies in cells as this family's predicates say. No program here.
-/
namespace Go.Proofs.Ytjkbecgenjhaaaa
open Go.RowKit Go.ChangeShapes Go.WideShapes Go.Deep

section
variable {H : Type} (enc : TypeId × Value → H) (P : Program) (w : World)
/-- Whatever reads as data of type t holds what A says. -/
def Opens {α : Type} (t : TypeId) (A : Rp α) : Prop := ∀ (fuel : Nat) (cs : List Value) (x : DataW H × List MemPlace), DataW.trod enc P w 0 (fun _ => true) true fuel t cs = some x → ∃ a, Has A w cs a
variable {enc P w}
theorem Opens.int {t : TypeId} (ht : P.underlying t = some (.int .i64)) : Opens enc P w t Rp.int := fun fuel cs x h => by
  obtain ⟨n, rfl, _, wn⟩ := DataW.trod_int ht h
  have : I64 n := by simpa [Lit.wf, IntKind.min, IntKind.max, IntKind.signed, IntKind.bits, I64] using wn
  exact ⟨n, [], rfl, rfl, this⟩
theorem Opens.bool {t : TypeId} (ht : P.underlying t = some .bool) : Opens enc P w t Rp.bool := fun fuel cs x h => by
  obtain ⟨n, rfl, _⟩ := DataW.trod_bool ht h
  exact ⟨n, [], rfl, rfl⟩
theorem Opens.prod {α β : Type} {t : TypeId} {A : Rp α} {B : Rp β} {f0 f1 : Field} (ht : P.underlying t = some (.struct #[f0, f1])) (o0 : f0.offset = 0) (o1 : f1.offset = A.size)
    (s0 : P.cellsOf f0.type = A.size) (s1 : P.cellsOf f1.type = B.size) (s : P.cellsOf t = A.size + B.size) (h0 : Opens enc P w f0.type A) (h1 : Opens enc P w f1.type B) : Opens enc P w t (Rp.prod A B) := fun fuel cs x h => by
  obtain ⟨xs, n, _, _, hl, hxl, hf⟩ := DataW.trod_struct ht h
  have e0 := hf 0 f0 rfl
  have e1 := hf 1 f1 rfl
  have hxl' : xs.length = 2 := hxl
  rw [o0, s0, List.getElem?_eq_getElem (by omega)] at e0
  rw [o1, s1, List.getElem?_eq_getElem (by omega)] at e1
  obtain ⟨a, fa, ra⟩ := h0 _ _ _ e0
  obtain ⟨b, fb, rb⟩ := h1 _ _ _ e1
  refine ⟨(a, b), fa ++ fb, _, _, fa, fb, ?_, rfl, ra, rb⟩
  rw [List.drop_zero, List.take_of_length_le (show (cs.drop A.size).length ≤ B.size by simp; omega), List.take_append_drop]
theorem Opens.slice {α : Type} {t e : TypeId} {A : Rp α} {p : 0 < A.size} (ht : P.underlying t = some (.slice e)) (hs : P.cellsOf e = A.size) (h0 : Opens enc P w e A) : Opens enc P w t (Rp.slice A p) := fun fuel cs x h => by
  rcases open_slice ht h with ⟨rfl, _⟩ | ⟨a, len, cap, m, n, D, Pl, rfl, hb, hl, hm, hmm, hx, hi⟩
  · exact ⟨[], [], none, 0, rfl, Nat.le_refl _, Nat.zero_le _, .inl ⟨rfl, rfl⟩⟩
  · have hcap : m = cap := by simpa using hmm
    clear hmm hx
    rw [hs] at hi
    by_cases h0l : len = 0
    · subst h0l
      exact ⟨[], [], some a, cap, rfl, Nat.zero_le _, hm, .inl ⟨rfl, rfl⟩⟩
    -- every element
    have hel : ∀ i, i < len → ∃ y : α × List Nat × List Value, A.rep w y.2.2 y.1 y.2.1 ∧ ∀ j v, y.2.2[j]? = some v → w.cell? ((a.add (i * A.size)).add j) = some v := by
      intro i hil
      obtain ⟨cs', hc, htr⟩ := hi i (by omega)
      obtain ⟨x, f, r⟩ := h0 _ _ _ htr
      obtain ⟨_, hcl, hat⟩ := World.cells?_some hc
      refine ⟨(x, f, cs'), r, fun j v hv => ?_⟩
      have hj : j < cs'.length := (List.getElem?_eq_some_iff.1 hv).1
      rw [hat j (by omega)]
      exact hv
    have hex : ∃ ys : List (α × List Nat × List Value), ys.length = len ∧ ∀ i y, ys[i]? = some y → A.rep w y.2.2 y.1 y.2.1 ∧ ∀ j v, y.2.2[j]? = some v → w.cell? ((a.add (i * A.size)).add j) = some v := by
      have : ∀ k, k ≤ len → ∃ ys : List (α × List Nat × List Value), ys.length = k ∧ ∀ i y, ys[i]? = some y → A.rep w y.2.2 y.1 y.2.1 ∧ ∀ j v, y.2.2[j]? = some v → w.cell? ((a.add (i * A.size)).add j) = some v := by
        intro k
        induction k with
        | zero => intro _; exact ⟨[], rfl, fun i y h => by simp at h⟩
        | succ k ih =>
          intro hk
          obtain ⟨ys, hyl, hys⟩ := ih (by omega)
          obtain ⟨y, hy⟩ := hel k (by omega)
          refine ⟨ys ++ [y], by simp [hyl], fun i z hz => ?_⟩
          rcases Nat.lt_or_ge i ys.length with hi | hi
          · rw [List.getElem?_append_left hi] at hz
            exact hys i z hz
          · have hik : i = k := by
              have := (List.getElem?_eq_some_iff.1 hz).1
              simp at this
              omega
            subst hik
            rw [← hyl] at hz ⊢
            simp at hz
            subst hz
            exact hyl ▸ hy
      exact this len (Nat.le_refl _)
    obtain ⟨ys, hyl, hys⟩ := hex
    have hspot : a.spot = none := by
      have hy0 : ys[0]? = some (ys[0]'(by omega)) := List.getElem?_eq_getElem (by omega)
      obtain ⟨r, hc⟩ := hys 0 _ hy0
      have hcl := A.len r
      have h0c := hc 0 _ (List.getElem?_eq_getElem (by omega))
      simp [Addr.add] at h0c
      exact World.cell?_spot h0c
    obtain ⟨b, off, spot⟩ := a
    simp at hspot
    subst hspot
    refine ⟨ys.map (·.1), b :: (ys.map (·.2.1)).flatten, some ⟨b, off, none⟩, cap, by simp [hyl], by simpa [hyl] using hl, hm, .inr ⟨b, off, ys.map (·.2.1), ?_, rfl, rfl, by simp, fun i x hx => ?_⟩⟩
    · intro hn
      have : ys = [] := by simpa using hn
      subst this
      simp at hyl
      omega
    · rw [List.getElem?_map] at hx
      obtain ⟨y, hy, rfl⟩ := Option.map_eq_some_iff.1 hx
      obtain ⟨r, hc⟩ := hys i y hy
      refine ⟨y.2.1, y.2.2, by rw [List.getElem?_map, hy]; rfl, r, fun j v hv => ?_⟩
      have h := hc j v hv
      rw [Go.Deep.add_add] at h
      have hadd : ∀ k, (⟨b, off, none⟩ : Addr).add k = ⟨b, off + k, none⟩ := fun k => by
        unfold Addr.add
        by_cases hk : k = 0
        · subst hk; rfl
        · rw [if_neg hk]
      rw [hadd] at h
      rw [Nat.add_assoc]
      exact h
end
end Go.Proofs.Ytjkbecgenjhaaaa

namespace Go.Proofs.Ytjkbecgenjhaaaa
open Go.RowKit

abbrev DIntS := List Int
abbrev RIntS : Rp DIntS := Rp.slice Rp.int (by decide)
abbrev DBigInt := Bool × DIntS
abbrev RBigInt : Rp DBigInt := Rp.prod Rp.bool RIntS
abbrev DRat := DBigInt × DIntS
abbrev RRat : Rp DRat := Rp.prod RBigInt RIntS
abbrev DRatS := List DRat
abbrev RRatS : Rp DRatS := Rp.slice RRat (by decide)
abbrev DPoint := DRat × DRat
abbrev RPoint : Rp DPoint := Rp.prod RRat RRat
abbrev DStep := Int × DPoint
abbrev RStep : Rp DStep := Rp.prod Rp.int RPoint
abbrev DStepS := List DStep
abbrev RStepS : Rp DStepS := Rp.slice RStep (by decide)
abbrev DPointS := List DPoint
abbrev RPointS : Rp DPointS := Rp.slice RPoint (by decide)
abbrev DPlacement := Int × DPoint
abbrev RPlacement : Rp DPlacement := Rp.prod Rp.int RPoint
theorem list1 {α : Type} {l : List α} (h : l.length = 1) : ∃ c0, l = [c0] := by
  match l, h with
  | [c0], _ => exact ⟨c0, rfl⟩
theorem list2 {α : Type} {l : List α} (h : l.length = 2) : ∃ c0 c1, l = [c0, c1] := by
  match l, h with
  | [c0, c1], _ => exact ⟨c0, c1, rfl⟩
theorem list3 {α : Type} {l : List α} (h : l.length = 3) : ∃ c0 c1 c2, l = [c0, c1, c2] := by
  match l, h with
  | [c0, c1, c2], _ => exact ⟨c0, c1, c2, rfl⟩
theorem list6 {α : Type} {l : List α} (h : l.length = 6) : ∃ c0 c1 c2 c3 c4 c5, l = [c0, c1, c2, c3, c4, c5] := by
  match l, h with
  | [c0, c1, c2, c3, c4, c5], _ => exact ⟨c0, c1, c2, c3, c4, c5, rfl⟩
theorem list7 {α : Type} {l : List α} (h : l.length = 7) : ∃ c0 c1 c2 c3 c4 c5 c6, l = [c0, c1, c2, c3, c4, c5, c6] := by
  match l, h with
  | [c0, c1, c2, c3, c4, c5, c6], _ => exact ⟨c0, c1, c2, c3, c4, c5, c6, rfl⟩
def tBigInt (x : DBigInt) : Nat := x.2.length
def tRat (x : DRat) : Nat := tBigInt x.1 + x.2.length
def tRatS : DRatS → Nat
  | [] => 0
  | x :: l => tRat x + tRatS l
theorem tRatS_snoc (l : DRatS) (x : DRat) : tRatS (l ++ [x]) = tRatS l + tRat x := by
  induction l with
  | nil => simp [tRatS]
  | cons y l ih => simp [tRatS, ih]; omega
theorem tRatS_take (l : DRatS) (k : Nat) : tRatS (l.take k) ≤ tRatS l := by
  induction l generalizing k with
  | nil => simp [tRatS]
  | cons y l ih => cases k with
    | zero => simp [tRatS]
    | succ k => have := ih k; simp [tRatS]; omega
def tPoint (x : DPoint) : Nat := tRat x.1 + tRat x.2
def tPointS : DPointS → Nat
  | [] => 0
  | x :: l => tPoint x + tPointS l
theorem tPointS_snoc (l : DPointS) (x : DPoint) : tPointS (l ++ [x]) = tPointS l + tPoint x := by
  induction l with
  | nil => simp [tPointS]
  | cons y l ih => simp [tPointS, ih]; omega
theorem tPointS_take (l : DPointS) (k : Nat) : tPointS (l.take k) ≤ tPointS l := by
  induction l generalizing k with
  | nil => simp [tPointS]
  | cons y l ih => cases k with
    | zero => simp [tPointS]
    | succ k => have := ih k; simp [tPointS]; omega
def tPlacement (x : DPlacement) : Nat := tPoint x.2
def tStep (x : DStep) : Nat := tPoint x.2
def tStepS : DStepS → Nat
  | [] => 0
  | x :: l => tStep x + tStepS l
theorem tStepS_snoc (l : DStepS) (x : DStep) : tStepS (l ++ [x]) = tStepS l + tStep x := by
  induction l with
  | nil => simp [tStepS]
  | cons y l ih => simp [tStepS, ih]; omega
theorem tStepS_take (l : DStepS) (k : Nat) : tStepS (l.take k) ≤ tStepS l := by
  induction l generalizing k with
  | nil => simp [tStepS]
  | cons y l ih => cases k with
    | zero => simp [tStepS]
    | succ k => have := ih k; simp [tStepS]; omega
def mkIntS (l : DIntS) (k : Int) : DIntS := (List.range l.length).map fun i => k + (i : Nat)
def cnBigInt (x : DBigInt) : Nat := x.2.length
def mkBigInt (x : DBigInt) (k : Int) : DBigInt := (x.1, mkIntS x.2 k)
def ecBigInt (x : DBigInt) : Nat := 1 + x.2.length
def emBigInt (x : DBigInt) (k : Int) : DBigInt := ((k % 3 == 0), mkIntS x.2 (k + 1))
def cnRat (x : DRat) : Nat := cnBigInt x.1 + x.2.length
def mkRat (x : DRat) (k : Int) : DRat := (mkBigInt x.1 k, mkIntS x.2 (k + cnBigInt x.1))
def ecRat (x : DRat) : Nat := ecBigInt x.1 + x.2.length
def emRat (x : DRat) (k : Int) : DRat := (emBigInt x.1 k, mkIntS x.2 (k + ecBigInt x.1))
def cnRatS : DRatS → Nat
  | [] => 0
  | x :: l => ecRat x + cnRatS l
theorem cnRatS_snoc (l : DRatS) (x : DRat) : cnRatS (l ++ [x]) = cnRatS l + ecRat x := by
  induction l with
  | nil => simp [cnRatS]
  | cons y l ih => simp [cnRatS, ih]; omega
theorem cnRatS_take (l : DRatS) (k : Nat) : cnRatS (l.take k) ≤ cnRatS l := by
  induction l generalizing k with
  | nil => simp [cnRatS]
  | cons y l ih => cases k with
    | zero => simp [cnRatS]
    | succ k => have := ih k; simp [cnRatS]; omega
def mkRatS : DRatS → Int → DRatS
  | [], _ => []
  | x :: l, k => emRat x k :: mkRatS l (k + ecRat x)
theorem mkRatS_len (l : DRatS) (k : Int) : (mkRatS l k).length = l.length := by
  induction l generalizing k with
  | nil => rfl
  | cons y l ih => simp [mkRatS, ih]
theorem mkRatS_snoc (l : DRatS) (x : DRat) (k : Int) : mkRatS (l ++ [x]) k = mkRatS l k ++ [emRat x (k + cnRatS l)] := by
  induction l generalizing k with
  | nil => simp [mkRatS, cnRatS]
  | cons y l ih => simp only [List.cons_append, mkRatS, ih, cnRatS]; rw [show k + (ecRat y : Int) + (cnRatS l : Int) = k + ((ecRat y + cnRatS l : Nat) : Int) from by omega]
def cnPoint (x : DPoint) : Nat := cnRat x.1 + cnRat x.2
def mkPoint (x : DPoint) (k : Int) : DPoint := (mkRat x.1 k, mkRat x.2 (k + cnRat x.1))
def ecPoint (x : DPoint) : Nat := ecRat x.1 + ecRat x.2
def emPoint (x : DPoint) (k : Int) : DPoint := (emRat x.1 k, emRat x.2 (k + ecRat x.1))
def cnPointS : DPointS → Nat
  | [] => 0
  | x :: l => ecPoint x + cnPointS l
theorem cnPointS_snoc (l : DPointS) (x : DPoint) : cnPointS (l ++ [x]) = cnPointS l + ecPoint x := by
  induction l with
  | nil => simp [cnPointS]
  | cons y l ih => simp [cnPointS, ih]; omega
theorem cnPointS_take (l : DPointS) (k : Nat) : cnPointS (l.take k) ≤ cnPointS l := by
  induction l generalizing k with
  | nil => simp [cnPointS]
  | cons y l ih => cases k with
    | zero => simp [cnPointS]
    | succ k => have := ih k; simp [cnPointS]; omega
def mkPointS : DPointS → Int → DPointS
  | [], _ => []
  | x :: l, k => emPoint x k :: mkPointS l (k + ecPoint x)
theorem mkPointS_len (l : DPointS) (k : Int) : (mkPointS l k).length = l.length := by
  induction l generalizing k with
  | nil => rfl
  | cons y l ih => simp [mkPointS, ih]
theorem mkPointS_snoc (l : DPointS) (x : DPoint) (k : Int) : mkPointS (l ++ [x]) k = mkPointS l k ++ [emPoint x (k + cnPointS l)] := by
  induction l generalizing k with
  | nil => simp [mkPointS, cnPointS]
  | cons y l ih => simp only [List.cons_append, mkPointS, ih, cnPointS]; rw [show k + (ecPoint y : Int) + (cnPointS l : Int) = k + ((ecPoint y + cnPointS l : Nat) : Int) from by omega]
def cnPlacement (x : DPlacement) : Nat := cnPoint x.2
def mkPlacement (x : DPlacement) (k : Int) : DPlacement := (x.1, mkPoint x.2 k)
def ecPlacement (x : DPlacement) : Nat := 1 + ecPoint x.2
def emPlacement (x : DPlacement) (k : Int) : DPlacement := (k, emPoint x.2 (k + 1))
def cnStep (x : DStep) : Nat := cnPoint x.2
def mkStep (x : DStep) (k : Int) : DStep := (x.1, mkPoint x.2 k)
def ecStep (x : DStep) : Nat := 1 + ecPoint x.2
def emStep (x : DStep) (k : Int) : DStep := (k, emPoint x.2 (k + 1))
def cnStepS : DStepS → Nat
  | [] => 0
  | x :: l => ecStep x + cnStepS l
theorem cnStepS_snoc (l : DStepS) (x : DStep) : cnStepS (l ++ [x]) = cnStepS l + ecStep x := by
  induction l with
  | nil => simp [cnStepS]
  | cons y l ih => simp [cnStepS, ih]; omega
theorem cnStepS_take (l : DStepS) (k : Nat) : cnStepS (l.take k) ≤ cnStepS l := by
  induction l generalizing k with
  | nil => simp [cnStepS]
  | cons y l ih => cases k with
    | zero => simp [cnStepS]
    | succ k => have := ih k; simp [cnStepS]; omega
def mkStepS : DStepS → Int → DStepS
  | [], _ => []
  | x :: l, k => emStep x k :: mkStepS l (k + ecStep x)
theorem mkStepS_len (l : DStepS) (k : Int) : (mkStepS l k).length = l.length := by
  induction l generalizing k with
  | nil => rfl
  | cons y l ih => simp [mkStepS, ih]
theorem mkStepS_snoc (l : DStepS) (x : DStep) (k : Int) : mkStepS (l ++ [x]) k = mkStepS l k ++ [emStep x (k + cnStepS l)] := by
  induction l generalizing k with
  | nil => simp [mkStepS, cnStepS]
  | cons y l ih => simp only [List.cons_append, mkStepS, ih, cnStepS]; rw [show k + (ecStep y : Int) + (cnStepS l : Int) = k + ((ecStep y + cnStepS l : Nat) : Int) from by omega]
theorem mkRatS_get (l : DRatS) (k : Int) (j : Nat) (x : DRat) (h : l[j]? = some x) : (mkRatS l k)[j]? = some (emRat x (k + (cnRatS (l.take j) : Nat))) := by
  induction l generalizing k j with
  | nil => simp at h
  | cons y l ih => cases j with
    | zero => simp at h; subst h; simp [mkRatS, cnRatS]
    | succ j => simp at h; simp only [mkRatS, List.getElem?_cons_succ, List.take_succ_cons, cnRatS]; rw [ih _ j h, show k + (ecRat y : Int) + ((cnRatS (l.take j) : Nat) : Int) = k + ((ecRat y + cnRatS (l.take j) : Nat) : Int) from by omega]
theorem mkPointS_get (l : DPointS) (k : Int) (j : Nat) (x : DPoint) (h : l[j]? = some x) : (mkPointS l k)[j]? = some (emPoint x (k + (cnPointS (l.take j) : Nat))) := by
  induction l generalizing k j with
  | nil => simp at h
  | cons y l ih => cases j with
    | zero => simp at h; subst h; simp [mkPointS, cnPointS]
    | succ j => simp at h; simp only [mkPointS, List.getElem?_cons_succ, List.take_succ_cons, cnPointS]; rw [ih _ j h, show k + (ecPoint y : Int) + ((cnPointS (l.take j) : Nat) : Int) = k + ((ecPoint y + cnPointS (l.take j) : Nat) : Int) from by omega]
theorem mkStepS_get (l : DStepS) (k : Int) (j : Nat) (x : DStep) (h : l[j]? = some x) : (mkStepS l k)[j]? = some (emStep x (k + (cnStepS (l.take j) : Nat))) := by
  induction l generalizing k j with
  | nil => simp at h
  | cons y l ih => cases j with
    | zero => simp at h; subst h; simp [mkStepS, cnStepS]
    | succ j => simp at h; simp only [mkStepS, List.getElem?_cons_succ, List.take_succ_cons, cnStepS]; rw [ih _ j h, show k + (ecStep y : Int) + ((cnStepS (l.take j) : Nat) : Int) = k + ((ecStep y + cnStepS (l.take j) : Nat) : Int) from by omega]
end Go.Proofs.Ytjkbecgenjhaaaa

/-
  The arguments' types of this program, opened to this family's predicates.
-/
namespace Go.Proofs.Ytjkbecgenjhaaaa
open Go.RowKit
section
variable {H : Type} {enc : TypeId × Value → H} {w : World}
theorem oInt : Opens enc Try.prog w 3 Rp.int := Opens.int Try.underlying3
theorem oBool : Opens enc Try.prog w 4 Rp.bool := Opens.bool Try.underlying4
theorem oIntS : Opens enc Try.prog w 30 RIntS := Opens.slice Try.underlying30 (by kernel_rfl) oInt
theorem oBigInt : Opens enc Try.prog w 40 RBigInt := Opens.prod Try.underlying40 rfl rfl (by kernel_rfl) (by kernel_rfl) (by kernel_rfl) oBool oIntS
theorem oRat : Opens enc Try.prog w 42 RRat := Opens.prod Try.underlying42 rfl rfl (by kernel_rfl) (by kernel_rfl) (by kernel_rfl) oBigInt oIntS
theorem oPoint : Opens enc Try.prog w 44 RPoint := Opens.prod Try.underlying44 rfl rfl (by kernel_rfl) (by kernel_rfl) (by kernel_rfl) oRat oRat
theorem oStep : Opens enc Try.prog w 78 RStep := Opens.prod Try.underlying78 rfl rfl (by kernel_rfl) (by kernel_rfl) (by kernel_rfl) oInt oPoint
theorem oStepS : Opens enc Try.prog w 22 RStepS := Opens.slice Try.underlying22 (by kernel_rfl) oStep
theorem oPlacement : Opens enc Try.prog w 46 RPlacement := Opens.prod Try.underlying46 rfl rfl (by kernel_rfl) (by kernel_rfl) (by kernel_rfl) oInt oPoint
theorem oRatS : Opens enc Try.prog w 61 RRatS := Opens.slice Try.underlying61 (by kernel_rfl) oRat
end
end Go.Proofs.Ytjkbecgenjhaaaa

namespace Go.Proofs.Ytjkbecgenjhaaaa
open Go.RowKit

set_option maxHeartbeats 400000 in
theorem szIntS_any (v : Value) (l : List Int) (left : Int) (w : World) (hl : Has RIntS w [v] l) (h0 : 0 ≤ left) (h1 : left ≤ 1048576) :
    Calls Try.prog 102 #[v, .int .i64 left] w (Post (SzPost left l.length w)) := by
  obtain ⟨ad, c, rfl, hc, hm⟩ := hl.len_slice
  unfold maxLen at hm
  go_enter Try.func102, Try.ntmps102
  go_wp2
  · go_ret
    exact ⟨_, rfl, congrArg (Value.int .i64) (szr_lt (by omega)), Below.refl _ _⟩
  · go_ret
    exact ⟨_, rfl, congrArg (Value.int .i64) (szr_ge (by omega)), Below.refl _ _⟩
set_option maxHeartbeats 400000 in
theorem szBigInt_any (c0 c1 : Value) (x : DBigInt) (left : Int) (w : World) (hx : Has RBigInt w [c0, c1] x) (h0 : 0 ≤ left) (h1 : left ≤ 1048576) :
    Calls Try.prog 101 #[.agg #[c0, c1], .int .i64 left] w (Post (SzPost left (tBigInt x) w)) := by
  obtain ⟨hx0, hx1⟩ := hx.split [c0] [c1] rfl
  have HX1 := Lib.hid hx1
  clear hx hx0 hx1
  go_enter Try.func101, Try.ntmps101
  have hb0 := (Below.refl w.heap.size w).alloc (Nat.le_refl _) (Obj.cells #[c0, c1] 40)
  go_wp2_with fail
  refine (szIntS_any _ _ _ _ (HX1.out.below hb0) h0 h1).mono ?_
  rintro e w1 ⟨v, rfl, rfl, hbx1⟩
  have hr1 := szr_lo left (x.2.length) h0
  have hb1 := Below.up hb0 hbx1 hb0.size
  go_wp2
  · go_ret
    exact ⟨_, rfl, congrArg (Value.int .i64) (szr_fail (by assumption) (by unfold tBigInt; omega)), hb1⟩
  · go_ret
    exact ⟨_, rfl, rfl, hb1⟩
set_option maxHeartbeats 400000 in
theorem szRat_any (c0 c1 c2 : Value) (x : DRat) (left : Int) (w : World) (hx : Has RRat w [c0, c1, c2] x) (h0 : 0 ≤ left) (h1 : left ≤ 1048576) :
    Calls Try.prog 73 #[.agg #[c0, c1, c2], .int .i64 left] w (Post (SzPost left (tRat x) w)) := by
  obtain ⟨hx0, hx1⟩ := hx.split [c0, c1] [c2] rfl
  have HX0 := Lib.hid hx0
  have HX1 := Lib.hid hx1
  clear hx hx0 hx1
  go_enter Try.func73, Try.ntmps73
  have hb0 := (Below.refl w.heap.size w).alloc (Nat.le_refl _) (Obj.cells #[c0, c1, c2] 42)
  go_wp2_with fail
  refine (szBigInt_any _ _ _ _ _ (HX0.out.below hb0) h0 h1).mono ?_
  rintro e w1 ⟨v, rfl, rfl, hbx1⟩
  have hr1 := szr_lo left (tBigInt x.1) h0
  have hb1 := Below.up hb0 hbx1 hb0.size
  obtain ⟨hc1, hf1⟩ := bcell hbx1
  go_wp2_with fail
  · go_ret
    exact ⟨_, rfl, congrArg (Value.int .i64) (szr_fail (by assumption) (by unfold tRat; omega)), hb1⟩
  · have hge1 : 0 ≤ szr left (tBigInt x.1) := by assumption
    refine (szIntS_any _ _ _ _ (HX1.out.below hb1) hge1 (by omega)).mono ?_
    rintro e w2 ⟨v, rfl, rfl, hbx2⟩
    rw [szr_add _ _ _ hge1]
    have hr2 := szr_lo left (tBigInt x.1 + x.2.length) h0
    have hb2 := Below.up hb1 hbx2 hb1.size
    go_wp2
    · go_ret
      exact ⟨_, rfl, congrArg (Value.int .i64) (szr_fail (by assumption) (by unfold tRat; omega)), hb2⟩
    · go_ret
      exact ⟨_, rfl, rfl, hb2⟩
set_option maxHeartbeats 400000 in
theorem szPoint_any (c0 c1 c2 c3 c4 c5 : Value) (x : DPoint) (left : Int) (w : World) (hx : Has RPoint w [c0, c1, c2, c3, c4, c5] x) (h0 : 0 ≤ left) (h1 : left ≤ 1048576) :
    Calls Try.prog 43 #[.agg #[c0, c1, c2, c3, c4, c5], .int .i64 left] w (Post (SzPost left (tPoint x) w)) := by
  obtain ⟨hx0, hx1⟩ := hx.split [c0, c1, c2] [c3, c4, c5] rfl
  have HX0 := Lib.hid hx0
  have HX1 := Lib.hid hx1
  clear hx hx0 hx1
  go_enter Try.func43, Try.ntmps43
  have hb0 := (Below.refl w.heap.size w).alloc (Nat.le_refl _) (Obj.cells #[c0, c1, c2, c3, c4, c5] 44)
  go_wp2_with fail
  refine (szRat_any _ _ _ _ _ _ (HX0.out.below hb0) h0 h1).mono ?_
  rintro e w1 ⟨v, rfl, rfl, hbx1⟩
  have hr1 := szr_lo left (tRat x.1) h0
  have hb1 := Below.up hb0 hbx1 hb0.size
  obtain ⟨hc1, hf1⟩ := bcell hbx1
  go_wp2_with fail
  · go_ret
    exact ⟨_, rfl, congrArg (Value.int .i64) (szr_fail (by assumption) (by unfold tPoint; omega)), hb1⟩
  · have hge1 : 0 ≤ szr left (tRat x.1) := by assumption
    refine (szRat_any _ _ _ _ _ _ (HX1.out.below hb1) hge1 (by omega)).mono ?_
    rintro e w2 ⟨v, rfl, rfl, hbx2⟩
    rw [szr_add _ _ _ hge1]
    have hr2 := szr_lo left (tRat x.1 + tRat x.2) h0
    have hb2 := Below.up hb1 hbx2 hb1.size
    go_wp2
    · go_ret
      exact ⟨_, rfl, congrArg (Value.int .i64) (szr_fail (by assumption) (by unfold tPoint; omega)), hb2⟩
    · go_ret
      exact ⟨_, rfl, rfl, hb2⟩
set_option maxHeartbeats 400000 in
theorem szPlacement_any (c0 c1 c2 c3 c4 c5 c6 : Value) (x : DPlacement) (left : Int) (w : World) (hx : Has RPlacement w [c0, c1, c2, c3, c4, c5, c6] x) (h0 : 0 ≤ left) (h1 : left ≤ 1048576) :
    Calls Try.prog 26 #[.agg #[c0, c1, c2, c3, c4, c5, c6], .int .i64 left] w (Post (SzPost left (tPlacement x) w)) := by
  obtain ⟨hx0, hx1⟩ := hx.split [c0] [c1, c2, c3, c4, c5, c6] rfl
  have HX1 := Lib.hid hx1
  clear hx hx0 hx1
  go_enter Try.func26, Try.ntmps26
  have hb0 := (Below.refl w.heap.size w).alloc (Nat.le_refl _) (Obj.cells #[c0, c1, c2, c3, c4, c5, c6] 46)
  go_wp2_with fail
  refine (szPoint_any _ _ _ _ _ _ _ _ _ (HX1.out.below hb0) h0 h1).mono ?_
  rintro e w1 ⟨v, rfl, rfl, hbx1⟩
  have hr1 := szr_lo left (tPoint x.2) h0
  have hb1 := Below.up hb0 hbx1 hb0.size
  go_wp2
  · go_ret
    exact ⟨_, rfl, congrArg (Value.int .i64) (szr_fail (by assumption) (by unfold tPlacement; omega)), hb1⟩
  · go_ret
    exact ⟨_, rfl, rfl, hb1⟩
set_option maxHeartbeats 400000 in
theorem szStep_any (c0 c1 c2 c3 c4 c5 c6 : Value) (x : DStep) (left : Int) (w : World) (hx : Has RStep w [c0, c1, c2, c3, c4, c5, c6] x) (h0 : 0 ≤ left) (h1 : left ≤ 1048576) :
    Calls Try.prog 52 #[.agg #[c0, c1, c2, c3, c4, c5, c6], .int .i64 left] w (Post (SzPost left (tStep x) w)) := by
  obtain ⟨hx0, hx1⟩ := hx.split [c0] [c1, c2, c3, c4, c5, c6] rfl
  have HX1 := Lib.hid hx1
  clear hx hx0 hx1
  go_enter Try.func52, Try.ntmps52
  have hb0 := (Below.refl w.heap.size w).alloc (Nat.le_refl _) (Obj.cells #[c0, c1, c2, c3, c4, c5, c6] 78)
  go_wp2_with fail
  refine (szPoint_any _ _ _ _ _ _ _ _ _ (HX1.out.below hb0) h0 h1).mono ?_
  rintro e w1 ⟨v, rfl, rfl, hbx1⟩
  have hr1 := szr_lo left (tPoint x.2) h0
  have hb1 := Below.up hb0 hbx1 hb0.size
  go_wp2
  · go_ret
    exact ⟨_, rfl, congrArg (Value.int .i64) (szr_fail (by assumption) (by unfold tStep; omega)), hb1⟩
  · go_ret
    exact ⟨_, rfl, rfl, hb1⟩
set_option maxHeartbeats 400000 in
theorem szRatS_any (v : Value) (l : DRatS) (left : Int) (w : World) (hl : Has RRatS w [v] l) (h0 : 0 ≤ left) (h1 : left ≤ 1048576) :
    Calls Try.prog 34 #[v, .int .i64 left] w (Post (SzPost left (l.length + tRatS l) w)) := by
  obtain ⟨ad, c, rfl, hc, hm, hg⟩ := hl.elems
  unfold maxLen at hm
  have HG := Lib.hid hg; clear hg hl
  by_cases hlt : left - l.length < 0
  · go_enter Try.func34, Try.ntmps34
    go_wp2
    go_ret
    exact ⟨_, rfl, congrArg (Value.int .i64) (szr_lt (by omega)), Below.refl _ _⟩
  · go_enter Try.func34, Try.ntmps34
    go_wp2
    go_loopw [1, 5] (fun n i wr => ∃ k : Nat, k ≤ l.length ∧ i = .int .i64 k ∧ 0 ≤ szr left (l.length + tRatS (l.take k)) ∧ n = .int .i64 (szr left (l.length + tRatS (l.take k))) ∧ Below w.heap.size w wr) (fun _ i _ => l.length - (intOf i).toNat)
    case atStart => exact ⟨0, Nat.zero_le _, rfl, by simp [tRatS, szr]; rw [if_pos (by omega)]; omega, congrArg (Value.int .i64) (by simp [tRatS]; exact szr_ge (by omega)), Below.refl _ _⟩
    case round =>
      obtain ⟨k, hk, rfl, hle, rfl, hbw⟩ := hrel
      have hr0 := szr_lo left (l.length + tRatS (l.take k)) h0
      by_cases hkl : k < l.length
      · obtain ⟨b, off, cs, rfl, hbl, hx, hcs⟩ := HG.out k hkl
        obtain ⟨c0, c1, c2, rfl⟩ := list3 hx.len
        have HX := Lib.hid hx
        have hts : tRatS (l.take k) + tRat l[k] = tRatS (l.take (k + 1)) := by rw [List.take_succ_eq_append_getElem hkl, tRatS_snoc]
        have g0 : wr.cell? ⟨b, off + k * 3, none⟩ = some c0 := (hbw.cell (p := ⟨b, _, none⟩) hbl).trans (hcs 0 _ rfl)
        have g1 : wr.cell? ⟨b, off + k * 3 + 1, none⟩ = some c1 := (hbw.cell (p := ⟨b, _, none⟩) hbl).trans (hcs 1 _ rfl)
        have g2 : wr.cell? ⟨b, off + k * 3 + 2, none⟩ = some c2 := (hbw.cell (p := ⟨b, _, none⟩) hbl).trans (hcs 2 _ rfl)
        have HTS := Lib.hid hts
        clear hcs hx hts
        go_wp2_with fail
        refine (szRat_any _ _ _ _ _ _ (HX.out.below hbw) hle (by omega)).mono ?_
        rintro e w1 ⟨v, rfl, rfl, hbx⟩
        rw [szr_add _ _ _ hle, Nat.add_assoc, HTS.out]
        have hr := szr_lo left (l.length + tRatS (l.take (k + 1))) h0
        have hb1 := Below.up hbw hbx hbw.size
        go_wp2
        · go_ret
          exact ⟨_, rfl, congrArg (Value.int .i64) (szr_fail (by assumption) (Nat.add_le_add_left (tRatS_take l (k + 1)) _)), hb1⟩
        · go_roundw
          case rel => exact ⟨k + 1, by omega, by go_num, by assumption, rfl, hb1⟩
          case measure => simp [intOf]; omega
      · obtain rfl : k = l.length := by omega
        rw [List.take_length]
        go_wp2
        go_ret
        exact ⟨_, rfl, rfl, hbw⟩
set_option maxHeartbeats 400000 in
theorem szStepS_any (v : Value) (l : DStepS) (left : Int) (w : World) (hl : Has RStepS w [v] l) (h0 : 0 ≤ left) (h1 : left ≤ 1048576) :
    Calls Try.prog 11 #[v, .int .i64 left] w (Post (SzPost left (l.length + tStepS l) w)) := by
  obtain ⟨ad, c, rfl, hc, hm, hg⟩ := hl.elems
  unfold maxLen at hm
  have HG := Lib.hid hg; clear hg hl
  by_cases hlt : left - l.length < 0
  · go_enter Try.func11, Try.ntmps11
    go_wp2
    go_ret
    exact ⟨_, rfl, congrArg (Value.int .i64) (szr_lt (by omega)), Below.refl _ _⟩
  · go_enter Try.func11, Try.ntmps11
    go_wp2
    go_loopw [1, 5] (fun n i wr => ∃ k : Nat, k ≤ l.length ∧ i = .int .i64 k ∧ 0 ≤ szr left (l.length + tStepS (l.take k)) ∧ n = .int .i64 (szr left (l.length + tStepS (l.take k))) ∧ Below w.heap.size w wr) (fun _ i _ => l.length - (intOf i).toNat)
    case atStart => exact ⟨0, Nat.zero_le _, rfl, by simp [tStepS, szr]; rw [if_pos (by omega)]; omega, congrArg (Value.int .i64) (by simp [tStepS]; exact szr_ge (by omega)), Below.refl _ _⟩
    case round =>
      obtain ⟨k, hk, rfl, hle, rfl, hbw⟩ := hrel
      have hr0 := szr_lo left (l.length + tStepS (l.take k)) h0
      by_cases hkl : k < l.length
      · obtain ⟨b, off, cs, rfl, hbl, hx, hcs⟩ := HG.out k hkl
        obtain ⟨c0, c1, c2, c3, c4, c5, c6, rfl⟩ := list7 hx.len
        have HX := Lib.hid hx
        have hts : tStepS (l.take k) + tStep l[k] = tStepS (l.take (k + 1)) := by rw [List.take_succ_eq_append_getElem hkl, tStepS_snoc]
        have g0 : wr.cell? ⟨b, off + k * 7, none⟩ = some c0 := (hbw.cell (p := ⟨b, _, none⟩) hbl).trans (hcs 0 _ rfl)
        have g1 : wr.cell? ⟨b, off + k * 7 + 1, none⟩ = some c1 := (hbw.cell (p := ⟨b, _, none⟩) hbl).trans (hcs 1 _ rfl)
        have g2 : wr.cell? ⟨b, off + k * 7 + 2, none⟩ = some c2 := (hbw.cell (p := ⟨b, _, none⟩) hbl).trans (hcs 2 _ rfl)
        have g3 : wr.cell? ⟨b, off + k * 7 + 3, none⟩ = some c3 := (hbw.cell (p := ⟨b, _, none⟩) hbl).trans (hcs 3 _ rfl)
        have g4 : wr.cell? ⟨b, off + k * 7 + 4, none⟩ = some c4 := (hbw.cell (p := ⟨b, _, none⟩) hbl).trans (hcs 4 _ rfl)
        have g5 : wr.cell? ⟨b, off + k * 7 + 5, none⟩ = some c5 := (hbw.cell (p := ⟨b, _, none⟩) hbl).trans (hcs 5 _ rfl)
        have g6 : wr.cell? ⟨b, off + k * 7 + 6, none⟩ = some c6 := (hbw.cell (p := ⟨b, _, none⟩) hbl).trans (hcs 6 _ rfl)
        have HTS := Lib.hid hts
        clear hcs hx hts
        go_wp2_with fail
        refine (szStep_any _ _ _ _ _ _ _ _ _ _ (HX.out.below hbw) hle (by omega)).mono ?_
        rintro e w1 ⟨v, rfl, rfl, hbx⟩
        rw [szr_add _ _ _ hle, Nat.add_assoc, HTS.out]
        have hr := szr_lo left (l.length + tStepS (l.take (k + 1))) h0
        have hb1 := Below.up hbw hbx hbw.size
        go_wp2
        · go_ret
          exact ⟨_, rfl, congrArg (Value.int .i64) (szr_fail (by assumption) (Nat.add_le_add_left (tStepS_take l (k + 1)) _)), hb1⟩
        · go_roundw
          case rel => exact ⟨k + 1, by omega, by go_num, by assumption, rfl, hb1⟩
          case measure => simp [intOf]; omega
      · obtain rfl : k = l.length := by omega
        rw [List.take_length]
        go_wp2
        go_ret
        exact ⟨_, rfl, rfl, hbw⟩
end Go.Proofs.Ytjkbecgenjhaaaa

namespace Go.Proofs.Ytjkbecgenjhaaaa
open Go.RowKit

theorem infoint : (Try.prog.info? 3).map (fun i => (i.zero, i.size, i.bytes)) = some (some (.int .i64 0), 1, 8) := by kernel_rfl
set_option maxRecDepth 100000 in
set_option maxHeartbeats 400000 in
theorem toIntS_any (v : Value) (l : DIntS) (w : World) (hl : Has RIntS w [v] l) (hs : l.length ≤ 1048576) :
    Calls Try.prog 19 #[v] w (Post (Own1Post RIntS l w)) := by
  obtain ⟨ad, c, rfl, hc, hm, hg⟩ := hl.elems
  unfold maxLen at hm
  have HG := Lib.hid hg; clear hg hl
  have hln : l.length ≤ 1048576 := by omega
  obtain ⟨i0, hi, hz0, hz1, hz2⟩ := info_parts infoint
  go_enter Try.func19, Try.ntmps19
  go_wp2_with (at_make; refine wpList_make_full _ rfl _ _ 30 rfl w.heap.size 3 i0 _ 1 Try.underlying30 hi hz0 hz1 _ _ _ _ l.length rfl rfl rfl rfl (by rw [hz2]; omega) (by unfold maxLen; omega) (Nat.le_refl _) ?_)
  intro w1 hown hgrow
  have hb0 : Below w.heap.size w w1 := (Below.refl _ _).grown hgrow (Nat.le_refl _) (by simp)
  have HM0 := Lib.hid (Made.start (A := Rp.int) hown); clear hown hgrow hi hz0 hz1 hz2
  go_wp2
  go_loopw [4] (fun i wr => ∃ k : Nat, k ≤ l.length ∧ i = .int .i64 k ∧ Made Rp.int wr w.heap.size l.length 3 (l.take k) ∧ Below w.heap.size w wr) (fun i _ => l.length - (intOf i).toNat)
  case atStart => exact ⟨0, Nat.zero_le _, rfl, HM0.out, hb0⟩
  case round =>
    obtain ⟨k, hk, rfl, hM, hbw⟩ := hrel
    have HM := Lib.hid hM; clear hM
    by_cases hkl : k < l.length
    rotate_left
    · obtain rfl : k = l.length := by omega
      go_wp2
      go_ret
      have h := HM.out
      rw [List.take_length] at h
      exact ⟨_, rfl, h.own rfl (by unfold maxLen; omega) (Nat.le_refl _), hbw⟩
    have hgl : w.heap.size < wr.heap.size := HM.out.lt
    obtain ⟨b, off, cs, rfl, hbl, hx, hcs⟩ := HG.out k hkl
    obtain ⟨c0, rfl⟩ := list1 hx.len
    have hI := hx.int.2
    obtain rfl := hx.int.1
    have g0 : wr.cell? ⟨b, off + k, none⟩ = some (.int .i64 l[k]) := (hbw.cell (p := ⟨b, _, none⟩) hbl).trans (by simpa [Rp.int] using hcs 0 _ rfl)
    obtain ⟨y0, hy0⟩ := HM.out.cell k (by simp [Rp.int]; omega)
    have hfz := HM.out.frozen
    have HI := Lib.hid hI
    clear hcs hx hI
    go_wp2
    go_roundw
    case rel =>
      have hst := HM.out.step (Below.refl _ _) (Own.int wr.heap.size wr HI.out) (by rw [List.length_take]; omega)
      rw [← List.take_succ_eq_append_getElem hkl, List.length_take, Nat.min_eq_left hk] at hst
      exact ⟨k + 1, by omega, by go_num, by simpa [Rp.int, putCells] using hst, hbw.setCell (p := ⟨w.heap.size, k, none⟩) (Nat.le_refl _) _⟩
    case measure => simp [intOf]; omega
set_option maxRecDepth 100000 in
set_option maxHeartbeats 400000 in
theorem toBigInt_any (c0 c1 : Value) (x : DBigInt) (w : World) (hx : Has RBigInt w [c0, c1] x) (hs : tBigInt x ≤ 1048576) :
    Calls Try.prog 108 #[.agg #[c0, c1]] w (Post (OwnPost RBigInt x w)) := by
  obtain ⟨hx0, hx1⟩ := hx.split [c0] [c1] rfl
  obtain rfl := hx0.bool
  have HX1 := Lib.hid hx1
  clear hx hx0 hx1
  have HS := Lib.hid hs; clear hs
  go_enter Try.func108, Try.ntmps108
  go_wp2_with fail
  refine (toIntS_any _ _ _ (HX1.out.below ((((Below.refl w.heap.size w).alloc (Nat.le_refl _) _).alloc (by simp <;> omega) _).alloc (by simp <;> omega) _)) (by have := HS.out; unfold tBigInt at this; omega)).mono ?_
  rintro e w1 ⟨v1, rfl, ho1, hbx1⟩
  obtain ⟨ad1, cap1, rfl, _, _⟩ := ho1.has.len_slice
  simp only [World.size_alloc] at ho1
  have HO1_1 := Lib.hid ho1.inn; clear ho1
  have hb1 := Below.up ((((Below.refl w.heap.size w).alloc (Nat.le_refl _) _).alloc (by simp <;> omega) _).alloc (by simp <;> omega) _) hbx1 (by simp <;> omega)
  have hz1 := hbx1.size
  simp at hz1
  have q1_0 : w.heap.size < w1.heap.size := by omega
  have q1_1 : w.heap.size + 1 < w1.heap.size := by omega
  have q1_2 : w.heap.size + 1 + 1 < w1.heap.size := by omega
  obtain ⟨hc1, hf1⟩ := bcell hbx1
  go_wp2
  refine bodyPost_ret (v := .agg #[(Value.bool x.1), (Value.slice ad1 (x.2).length cap1)]) (by simp [results, Try.results108, go_sem, hc1]) rfl ⟨_, rfl, ⟨[(Value.bool x.1), (Value.slice ad1 (x.2).length cap1)], rfl, ?_⟩, ?_⟩
  · have G1 := (((HO1_1.out.setCell (p := ⟨w.heap.size + 1 + 1, 1, none⟩) (.inl (by simp <;> omega)) (Value.slice ad1 (x.2).length cap1)).setCell (p := ⟨w.heap.size + 1, 0, none⟩) (.inl (by simp <;> omega)) (Value.bool x.1)).setCell (p := ⟨w.heap.size + 1, 1, none⟩) (.inl (by simp <;> omega)) (Value.slice ad1 (x.2).length cap1))
    exact OwnIn.own (OwnIn.pair (OwnIn.bool (w.heap.size + 1 + 1 + 1) _ x.1) G1 (by omega) (by omega) (by omega)) (by omega)
  · exact (((hb1.setCell (p := ⟨w.heap.size + 1 + 1, 1, none⟩) (by simp <;> omega) (Value.slice ad1 (x.2).length cap1)).setCell (p := ⟨w.heap.size + 1, 0, none⟩) (by simp <;> omega) (Value.bool x.1)).setCell (p := ⟨w.heap.size + 1, 1, none⟩) (by simp <;> omega) (Value.slice ad1 (x.2).length cap1))
set_option maxRecDepth 100000 in
set_option maxHeartbeats 400000 in
theorem toRat_any (c0 c1 c2 : Value) (x : DRat) (w : World) (hx : Has RRat w [c0, c1, c2] x) (hs : tRat x ≤ 1048576) :
    Calls Try.prog 76 #[.agg #[c0, c1, c2]] w (Post (OwnPost RRat x w)) := by
  obtain ⟨hx0, hx1⟩ := hx.split [c0, c1] [c2] rfl
  have HX0 := Lib.hid hx0
  have HX1 := Lib.hid hx1
  clear hx hx0 hx1
  have HS := Lib.hid hs; clear hs
  go_enter Try.func76, Try.ntmps76
  go_wp2_with fail
  refine (toBigInt_any _ _ _ _ (HX0.out.below ((((Below.refl w.heap.size w).alloc (Nat.le_refl _) _).alloc (by simp <;> omega) _).alloc (by simp <;> omega) _)) (by have := HS.out; unfold tRat at this; omega)).mono ?_
  rintro e w1 ⟨v1, rfl, ⟨cs1, rfl, ho1⟩, hbx1⟩
  obtain ⟨v1_0, v1_1, rfl⟩ := list2 ho1.has.len
  have ov1_0 := ho1.has.one 0 _ rfl
  have ov1_1 := ho1.has.one 1 _ rfl
  simp only [World.size_alloc] at ho1
  have HO1_1 := Lib.hid ho1.inn; clear ho1
  have hb1 := Below.up ((((Below.refl w.heap.size w).alloc (Nat.le_refl _) _).alloc (by simp <;> omega) _).alloc (by simp <;> omega) _) hbx1 (by simp <;> omega)
  have hz1 := hbx1.size
  simp at hz1
  have q1_0 : w.heap.size < w1.heap.size := by omega
  have q1_1 : w.heap.size + 1 < w1.heap.size := by omega
  have q1_2 : w.heap.size + 1 + 1 < w1.heap.size := by omega
  obtain ⟨hc1, hf1⟩ := bcell hbx1
  go_wp2_with fail
  have hbs1 := ((hb1.setCell (p := ⟨w.heap.size + 1 + 1, 0, none⟩) (by simp <;> omega) v1_0).setCell (p := ⟨w.heap.size + 1 + 1, 1, none⟩) (by simp <;> omega) v1_1)
  have HOs1_1 := ((HO1_1.out.setCell (p := ⟨w.heap.size + 1 + 1, 0, none⟩) (.inl (by simp <;> omega)) v1_0).setCell (p := ⟨w.heap.size + 1 + 1, 1, none⟩) (.inl (by simp <;> omega)) v1_1)
  refine (toIntS_any _ _ _ (HX1.out.below hbs1) (by have := HS.out; unfold tRat at this; omega)).mono ?_
  rintro e w2 ⟨v2, rfl, ho2, hbx2⟩
  obtain ⟨ad2, cap2, rfl, _, _⟩ := ho2.has.len_slice
  simp only [World.size_setCell] at ho2
  have HO2_2 := Lib.hid ho2.inn; clear ho2
  have hb2 := Below.up hbs1 hbx2 (by simp <;> omega)
  have hz2 := hbx2.size
  simp at hz2
  have q2_0 : w.heap.size < w2.heap.size := by omega
  have q2_1 : w.heap.size + 1 < w2.heap.size := by omega
  have q2_2 : w.heap.size + 1 + 1 < w2.heap.size := by omega
  have HO1_2 := Lib.hid (HOs1_1.below hbx2 (by simp)); clear HOs1_1 HO1_1
  obtain ⟨hc2, hf2⟩ := bcell hbx2
  go_wp2
  refine bodyPost_ret (v := .agg #[v1_0, v1_1, (Value.slice ad2 (x.2).length cap2)]) (by simp [results, Try.results76, go_sem, hc1, hc2, q1_1]) rfl ⟨_, rfl, ⟨[v1_0, v1_1, (Value.slice ad2 (x.2).length cap2)], rfl, ?_⟩, ?_⟩
  · have G1 := ((((HO1_2.out.setCell (p := ⟨w.heap.size + 1 + 1, 2, none⟩) (.inl (by simp <;> omega)) (Value.slice ad2 (x.2).length cap2)).setCell (p := ⟨w.heap.size + 1, 0, none⟩) (.inl (by simp <;> omega)) v1_0).setCell (p := ⟨w.heap.size + 1, 1, none⟩) (.inl (by simp <;> omega)) v1_1).setCell (p := ⟨w.heap.size + 1, 2, none⟩) (.inl (by simp <;> omega)) (Value.slice ad2 (x.2).length cap2))
    have G2 := ((((HO2_2.out.setCell (p := ⟨w.heap.size + 1 + 1, 2, none⟩) (.inl (by simp <;> omega)) (Value.slice ad2 (x.2).length cap2)).setCell (p := ⟨w.heap.size + 1, 0, none⟩) (.inl (by simp <;> omega)) v1_0).setCell (p := ⟨w.heap.size + 1, 1, none⟩) (.inl (by simp <;> omega)) v1_1).setCell (p := ⟨w.heap.size + 1, 2, none⟩) (.inl (by simp <;> omega)) (Value.slice ad2 (x.2).length cap2))
    exact OwnIn.own (OwnIn.pair G1 G2 (by omega) (by omega) (by omega)) (by omega)
  · exact ((((hb2.setCell (p := ⟨w.heap.size + 1 + 1, 2, none⟩) (by simp <;> omega) (Value.slice ad2 (x.2).length cap2)).setCell (p := ⟨w.heap.size + 1, 0, none⟩) (by simp <;> omega) v1_0).setCell (p := ⟨w.heap.size + 1, 1, none⟩) (by simp <;> omega) v1_1).setCell (p := ⟨w.heap.size + 1, 2, none⟩) (by simp <;> omega) (Value.slice ad2 (x.2).length cap2))
set_option maxRecDepth 100000 in
set_option maxHeartbeats 400000 in
theorem toPoint_any (c0 c1 c2 c3 c4 c5 : Value) (x : DPoint) (w : World) (hx : Has RPoint w [c0, c1, c2, c3, c4, c5] x) (hs : tPoint x ≤ 1048576) :
    Calls Try.prog 45 #[.agg #[c0, c1, c2, c3, c4, c5]] w (Post (OwnPost RPoint x w)) := by
  obtain ⟨hx0, hx1⟩ := hx.split [c0, c1, c2] [c3, c4, c5] rfl
  have HX0 := Lib.hid hx0
  have HX1 := Lib.hid hx1
  clear hx hx0 hx1
  have HS := Lib.hid hs; clear hs
  go_enter Try.func45, Try.ntmps45
  go_wp2_with fail
  refine (toRat_any _ _ _ _ _ (HX0.out.below ((((Below.refl w.heap.size w).alloc (Nat.le_refl _) _).alloc (by simp <;> omega) _).alloc (by simp <;> omega) _)) (by have := HS.out; unfold tPoint at this; omega)).mono ?_
  rintro e w1 ⟨v1, rfl, ⟨cs1, rfl, ho1⟩, hbx1⟩
  obtain ⟨v1_0, v1_1, v1_2, rfl⟩ := list3 ho1.has.len
  have ov1_0 := ho1.has.one 0 _ rfl
  have ov1_1 := ho1.has.one 1 _ rfl
  have ov1_2 := ho1.has.one 2 _ rfl
  simp only [World.size_alloc] at ho1
  have HO1_1 := Lib.hid ho1.inn; clear ho1
  have hb1 := Below.up ((((Below.refl w.heap.size w).alloc (Nat.le_refl _) _).alloc (by simp <;> omega) _).alloc (by simp <;> omega) _) hbx1 (by simp <;> omega)
  have hz1 := hbx1.size
  simp at hz1
  have q1_0 : w.heap.size < w1.heap.size := by omega
  have q1_1 : w.heap.size + 1 < w1.heap.size := by omega
  have q1_2 : w.heap.size + 1 + 1 < w1.heap.size := by omega
  obtain ⟨hc1, hf1⟩ := bcell hbx1
  go_wp2_with fail
  have hbs1 := (((hb1.setCell (p := ⟨w.heap.size + 1 + 1, 0, none⟩) (by simp <;> omega) v1_0).setCell (p := ⟨w.heap.size + 1 + 1, 1, none⟩) (by simp <;> omega) v1_1).setCell (p := ⟨w.heap.size + 1 + 1, 2, none⟩) (by simp <;> omega) v1_2)
  have HOs1_1 := (((HO1_1.out.setCell (p := ⟨w.heap.size + 1 + 1, 0, none⟩) (.inl (by simp <;> omega)) v1_0).setCell (p := ⟨w.heap.size + 1 + 1, 1, none⟩) (.inl (by simp <;> omega)) v1_1).setCell (p := ⟨w.heap.size + 1 + 1, 2, none⟩) (.inl (by simp <;> omega)) v1_2)
  refine (toRat_any _ _ _ _ _ (HX1.out.below hbs1) (by have := HS.out; unfold tPoint at this; omega)).mono ?_
  rintro e w2 ⟨v2, rfl, ⟨cs2, rfl, ho2⟩, hbx2⟩
  obtain ⟨v2_0, v2_1, v2_2, rfl⟩ := list3 ho2.has.len
  have ov2_0 := ho2.has.one 0 _ rfl
  have ov2_1 := ho2.has.one 1 _ rfl
  have ov2_2 := ho2.has.one 2 _ rfl
  simp only [World.size_setCell] at ho2
  have HO2_2 := Lib.hid ho2.inn; clear ho2
  have hb2 := Below.up hbs1 hbx2 (by simp <;> omega)
  have hz2 := hbx2.size
  simp at hz2
  have q2_0 : w.heap.size < w2.heap.size := by omega
  have q2_1 : w.heap.size + 1 < w2.heap.size := by omega
  have q2_2 : w.heap.size + 1 + 1 < w2.heap.size := by omega
  have HO1_2 := Lib.hid (HOs1_1.below hbx2 (by simp)); clear HOs1_1 HO1_1
  obtain ⟨hc2, hf2⟩ := bcell hbx2
  go_wp2
  refine bodyPost_ret (v := .agg #[v1_0, v1_1, v1_2, v2_0, v2_1, v2_2]) (by simp [results, Try.results45, go_sem, hc1, hc2, q1_1]) rfl ⟨_, rfl, ⟨[v1_0, v1_1, v1_2, v2_0, v2_1, v2_2], rfl, ?_⟩, ?_⟩
  · have G1 := (((((((((HO1_2.out.setCell (p := ⟨w.heap.size + 1 + 1, 3, none⟩) (.inl (by simp <;> omega)) v2_0).setCell (p := ⟨w.heap.size + 1 + 1, 4, none⟩) (.inl (by simp <;> omega)) v2_1).setCell (p := ⟨w.heap.size + 1 + 1, 5, none⟩) (.inl (by simp <;> omega)) v2_2).setCell (p := ⟨w.heap.size + 1, 0, none⟩) (.inl (by simp <;> omega)) v1_0).setCell (p := ⟨w.heap.size + 1, 1, none⟩) (.inl (by simp <;> omega)) v1_1).setCell (p := ⟨w.heap.size + 1, 2, none⟩) (.inl (by simp <;> omega)) v1_2).setCell (p := ⟨w.heap.size + 1, 3, none⟩) (.inl (by simp <;> omega)) v2_0).setCell (p := ⟨w.heap.size + 1, 4, none⟩) (.inl (by simp <;> omega)) v2_1).setCell (p := ⟨w.heap.size + 1, 5, none⟩) (.inl (by simp <;> omega)) v2_2)
    have G2 := (((((((((HO2_2.out.setCell (p := ⟨w.heap.size + 1 + 1, 3, none⟩) (.inl (by simp <;> omega)) v2_0).setCell (p := ⟨w.heap.size + 1 + 1, 4, none⟩) (.inl (by simp <;> omega)) v2_1).setCell (p := ⟨w.heap.size + 1 + 1, 5, none⟩) (.inl (by simp <;> omega)) v2_2).setCell (p := ⟨w.heap.size + 1, 0, none⟩) (.inl (by simp <;> omega)) v1_0).setCell (p := ⟨w.heap.size + 1, 1, none⟩) (.inl (by simp <;> omega)) v1_1).setCell (p := ⟨w.heap.size + 1, 2, none⟩) (.inl (by simp <;> omega)) v1_2).setCell (p := ⟨w.heap.size + 1, 3, none⟩) (.inl (by simp <;> omega)) v2_0).setCell (p := ⟨w.heap.size + 1, 4, none⟩) (.inl (by simp <;> omega)) v2_1).setCell (p := ⟨w.heap.size + 1, 5, none⟩) (.inl (by simp <;> omega)) v2_2)
    exact OwnIn.own (OwnIn.pair G1 G2 (by omega) (by omega) (by omega)) (by omega)
  · exact (((((((((hb2.setCell (p := ⟨w.heap.size + 1 + 1, 3, none⟩) (by simp <;> omega) v2_0).setCell (p := ⟨w.heap.size + 1 + 1, 4, none⟩) (by simp <;> omega) v2_1).setCell (p := ⟨w.heap.size + 1 + 1, 5, none⟩) (by simp <;> omega) v2_2).setCell (p := ⟨w.heap.size + 1, 0, none⟩) (by simp <;> omega) v1_0).setCell (p := ⟨w.heap.size + 1, 1, none⟩) (by simp <;> omega) v1_1).setCell (p := ⟨w.heap.size + 1, 2, none⟩) (by simp <;> omega) v1_2).setCell (p := ⟨w.heap.size + 1, 3, none⟩) (by simp <;> omega) v2_0).setCell (p := ⟨w.heap.size + 1, 4, none⟩) (by simp <;> omega) v2_1).setCell (p := ⟨w.heap.size + 1, 5, none⟩) (by simp <;> omega) v2_2)
set_option maxRecDepth 100000 in
set_option maxHeartbeats 400000 in
theorem toPlacement_any (c0 c1 c2 c3 c4 c5 c6 : Value) (x : DPlacement) (w : World) (hx : Has RPlacement w [c0, c1, c2, c3, c4, c5, c6] x) (hs : tPlacement x ≤ 1048576) :
    Calls Try.prog 28 #[.agg #[c0, c1, c2, c3, c4, c5, c6]] w (Post (OwnPost RPlacement x w)) := by
  obtain ⟨hx0, hx1⟩ := hx.split [c0] [c1, c2, c3, c4, c5, c6] rfl
  have hI0 := hx0.int.2
  obtain rfl := hx0.int.1
  have HI0 := Lib.hid hI0; clear hI0
  have HX1 := Lib.hid hx1
  clear hx hx0 hx1
  have HS := Lib.hid hs; clear hs
  go_enter Try.func28, Try.ntmps28
  go_wp2_with fail
  refine (toPoint_any _ _ _ _ _ _ _ _ (HX1.out.below ((((Below.refl w.heap.size w).alloc (Nat.le_refl _) _).alloc (by simp <;> omega) _).alloc (by simp <;> omega) _)) (by have := HS.out; unfold tPlacement at this; omega)).mono ?_
  rintro e w1 ⟨v1, rfl, ⟨cs1, rfl, ho1⟩, hbx1⟩
  obtain ⟨v1_0, v1_1, v1_2, v1_3, v1_4, v1_5, rfl⟩ := list6 ho1.has.len
  have ov1_0 := ho1.has.one 0 _ rfl
  have ov1_1 := ho1.has.one 1 _ rfl
  have ov1_2 := ho1.has.one 2 _ rfl
  have ov1_3 := ho1.has.one 3 _ rfl
  have ov1_4 := ho1.has.one 4 _ rfl
  have ov1_5 := ho1.has.one 5 _ rfl
  simp only [World.size_alloc] at ho1
  have HO1_1 := Lib.hid ho1.inn; clear ho1
  have hb1 := Below.up ((((Below.refl w.heap.size w).alloc (Nat.le_refl _) _).alloc (by simp <;> omega) _).alloc (by simp <;> omega) _) hbx1 (by simp <;> omega)
  have hz1 := hbx1.size
  simp at hz1
  have q1_0 : w.heap.size < w1.heap.size := by omega
  have q1_1 : w.heap.size + 1 < w1.heap.size := by omega
  have q1_2 : w.heap.size + 1 + 1 < w1.heap.size := by omega
  obtain ⟨hc1, hf1⟩ := bcell hbx1
  go_wp2
  refine bodyPost_ret (v := .agg #[(Value.int .i64 x.1), v1_0, v1_1, v1_2, v1_3, v1_4, v1_5]) (by simp [results, Try.results28, go_sem, hc1]) rfl ⟨_, rfl, ⟨[(Value.int .i64 x.1), v1_0, v1_1, v1_2, v1_3, v1_4, v1_5], rfl, ?_⟩, ?_⟩
  · have G1 := (((((((((((((HO1_1.out.setCell (p := ⟨w.heap.size + 1 + 1, 1, none⟩) (.inl (by simp <;> omega)) v1_0).setCell (p := ⟨w.heap.size + 1 + 1, 2, none⟩) (.inl (by simp <;> omega)) v1_1).setCell (p := ⟨w.heap.size + 1 + 1, 3, none⟩) (.inl (by simp <;> omega)) v1_2).setCell (p := ⟨w.heap.size + 1 + 1, 4, none⟩) (.inl (by simp <;> omega)) v1_3).setCell (p := ⟨w.heap.size + 1 + 1, 5, none⟩) (.inl (by simp <;> omega)) v1_4).setCell (p := ⟨w.heap.size + 1 + 1, 6, none⟩) (.inl (by simp <;> omega)) v1_5).setCell (p := ⟨w.heap.size + 1, 0, none⟩) (.inl (by simp <;> omega)) (Value.int .i64 x.1)).setCell (p := ⟨w.heap.size + 1, 1, none⟩) (.inl (by simp <;> omega)) v1_0).setCell (p := ⟨w.heap.size + 1, 2, none⟩) (.inl (by simp <;> omega)) v1_1).setCell (p := ⟨w.heap.size + 1, 3, none⟩) (.inl (by simp <;> omega)) v1_2).setCell (p := ⟨w.heap.size + 1, 4, none⟩) (.inl (by simp <;> omega)) v1_3).setCell (p := ⟨w.heap.size + 1, 5, none⟩) (.inl (by simp <;> omega)) v1_4).setCell (p := ⟨w.heap.size + 1, 6, none⟩) (.inl (by simp <;> omega)) v1_5)
    exact OwnIn.own (OwnIn.pair (OwnIn.int (w.heap.size + 1 + 1 + 1) _ HI0.out) G1 (by omega) (by omega) (by omega)) (by omega)
  · exact (((((((((((((hb1.setCell (p := ⟨w.heap.size + 1 + 1, 1, none⟩) (by simp <;> omega) v1_0).setCell (p := ⟨w.heap.size + 1 + 1, 2, none⟩) (by simp <;> omega) v1_1).setCell (p := ⟨w.heap.size + 1 + 1, 3, none⟩) (by simp <;> omega) v1_2).setCell (p := ⟨w.heap.size + 1 + 1, 4, none⟩) (by simp <;> omega) v1_3).setCell (p := ⟨w.heap.size + 1 + 1, 5, none⟩) (by simp <;> omega) v1_4).setCell (p := ⟨w.heap.size + 1 + 1, 6, none⟩) (by simp <;> omega) v1_5).setCell (p := ⟨w.heap.size + 1, 0, none⟩) (by simp <;> omega) (Value.int .i64 x.1)).setCell (p := ⟨w.heap.size + 1, 1, none⟩) (by simp <;> omega) v1_0).setCell (p := ⟨w.heap.size + 1, 2, none⟩) (by simp <;> omega) v1_1).setCell (p := ⟨w.heap.size + 1, 3, none⟩) (by simp <;> omega) v1_2).setCell (p := ⟨w.heap.size + 1, 4, none⟩) (by simp <;> omega) v1_3).setCell (p := ⟨w.heap.size + 1, 5, none⟩) (by simp <;> omega) v1_4).setCell (p := ⟨w.heap.size + 1, 6, none⟩) (by simp <;> omega) v1_5)
set_option maxRecDepth 100000 in
set_option maxHeartbeats 400000 in
theorem toStep_any (c0 c1 c2 c3 c4 c5 c6 : Value) (x : DStep) (w : World) (hx : Has RStep w [c0, c1, c2, c3, c4, c5, c6] x) (hs : tStep x ≤ 1048576) :
    Calls Try.prog 53 #[.agg #[c0, c1, c2, c3, c4, c5, c6]] w (Post (OwnPost RStep x w)) := by
  obtain ⟨hx0, hx1⟩ := hx.split [c0] [c1, c2, c3, c4, c5, c6] rfl
  have hI0 := hx0.int.2
  obtain rfl := hx0.int.1
  have HI0 := Lib.hid hI0; clear hI0
  have HX1 := Lib.hid hx1
  clear hx hx0 hx1
  have HS := Lib.hid hs; clear hs
  go_enter Try.func53, Try.ntmps53
  go_wp2_with fail
  refine (toPoint_any _ _ _ _ _ _ _ _ (HX1.out.below ((((Below.refl w.heap.size w).alloc (Nat.le_refl _) _).alloc (by simp <;> omega) _).alloc (by simp <;> omega) _)) (by have := HS.out; unfold tStep at this; omega)).mono ?_
  rintro e w1 ⟨v1, rfl, ⟨cs1, rfl, ho1⟩, hbx1⟩
  obtain ⟨v1_0, v1_1, v1_2, v1_3, v1_4, v1_5, rfl⟩ := list6 ho1.has.len
  have ov1_0 := ho1.has.one 0 _ rfl
  have ov1_1 := ho1.has.one 1 _ rfl
  have ov1_2 := ho1.has.one 2 _ rfl
  have ov1_3 := ho1.has.one 3 _ rfl
  have ov1_4 := ho1.has.one 4 _ rfl
  have ov1_5 := ho1.has.one 5 _ rfl
  simp only [World.size_alloc] at ho1
  have HO1_1 := Lib.hid ho1.inn; clear ho1
  have hb1 := Below.up ((((Below.refl w.heap.size w).alloc (Nat.le_refl _) _).alloc (by simp <;> omega) _).alloc (by simp <;> omega) _) hbx1 (by simp <;> omega)
  have hz1 := hbx1.size
  simp at hz1
  have q1_0 : w.heap.size < w1.heap.size := by omega
  have q1_1 : w.heap.size + 1 < w1.heap.size := by omega
  have q1_2 : w.heap.size + 1 + 1 < w1.heap.size := by omega
  obtain ⟨hc1, hf1⟩ := bcell hbx1
  go_wp2
  refine bodyPost_ret (v := .agg #[(Value.int .i64 x.1), v1_0, v1_1, v1_2, v1_3, v1_4, v1_5]) (by simp [results, Try.results53, go_sem, hc1]) rfl ⟨_, rfl, ⟨[(Value.int .i64 x.1), v1_0, v1_1, v1_2, v1_3, v1_4, v1_5], rfl, ?_⟩, ?_⟩
  · have G1 := (((((((((((((HO1_1.out.setCell (p := ⟨w.heap.size + 1 + 1, 1, none⟩) (.inl (by simp <;> omega)) v1_0).setCell (p := ⟨w.heap.size + 1 + 1, 2, none⟩) (.inl (by simp <;> omega)) v1_1).setCell (p := ⟨w.heap.size + 1 + 1, 3, none⟩) (.inl (by simp <;> omega)) v1_2).setCell (p := ⟨w.heap.size + 1 + 1, 4, none⟩) (.inl (by simp <;> omega)) v1_3).setCell (p := ⟨w.heap.size + 1 + 1, 5, none⟩) (.inl (by simp <;> omega)) v1_4).setCell (p := ⟨w.heap.size + 1 + 1, 6, none⟩) (.inl (by simp <;> omega)) v1_5).setCell (p := ⟨w.heap.size + 1, 0, none⟩) (.inl (by simp <;> omega)) (Value.int .i64 x.1)).setCell (p := ⟨w.heap.size + 1, 1, none⟩) (.inl (by simp <;> omega)) v1_0).setCell (p := ⟨w.heap.size + 1, 2, none⟩) (.inl (by simp <;> omega)) v1_1).setCell (p := ⟨w.heap.size + 1, 3, none⟩) (.inl (by simp <;> omega)) v1_2).setCell (p := ⟨w.heap.size + 1, 4, none⟩) (.inl (by simp <;> omega)) v1_3).setCell (p := ⟨w.heap.size + 1, 5, none⟩) (.inl (by simp <;> omega)) v1_4).setCell (p := ⟨w.heap.size + 1, 6, none⟩) (.inl (by simp <;> omega)) v1_5)
    exact OwnIn.own (OwnIn.pair (OwnIn.int (w.heap.size + 1 + 1 + 1) _ HI0.out) G1 (by omega) (by omega) (by omega)) (by omega)
  · exact (((((((((((((hb1.setCell (p := ⟨w.heap.size + 1 + 1, 1, none⟩) (by simp <;> omega) v1_0).setCell (p := ⟨w.heap.size + 1 + 1, 2, none⟩) (by simp <;> omega) v1_1).setCell (p := ⟨w.heap.size + 1 + 1, 3, none⟩) (by simp <;> omega) v1_2).setCell (p := ⟨w.heap.size + 1 + 1, 4, none⟩) (by simp <;> omega) v1_3).setCell (p := ⟨w.heap.size + 1 + 1, 5, none⟩) (by simp <;> omega) v1_4).setCell (p := ⟨w.heap.size + 1 + 1, 6, none⟩) (by simp <;> omega) v1_5).setCell (p := ⟨w.heap.size + 1, 0, none⟩) (by simp <;> omega) (Value.int .i64 x.1)).setCell (p := ⟨w.heap.size + 1, 1, none⟩) (by simp <;> omega) v1_0).setCell (p := ⟨w.heap.size + 1, 2, none⟩) (by simp <;> omega) v1_1).setCell (p := ⟨w.heap.size + 1, 3, none⟩) (by simp <;> omega) v1_2).setCell (p := ⟨w.heap.size + 1, 4, none⟩) (by simp <;> omega) v1_3).setCell (p := ⟨w.heap.size + 1, 5, none⟩) (by simp <;> omega) v1_4).setCell (p := ⟨w.heap.size + 1, 6, none⟩) (by simp <;> omega) v1_5)
theorem infoRat : (Try.prog.info? 51).map (fun i => (i.zero, i.size, i.bytes)) = some (some (.agg #[.bool false, .slice none 0 0, .slice none 0 0]), 3, 56) := by kernel_rfl
set_option maxRecDepth 100000 in
set_option maxHeartbeats 400000 in
theorem toRatS_any (v : Value) (l : DRatS) (w : World) (hl : Has RRatS w [v] l) (hs : l.length + tRatS l ≤ 1048576) :
    Calls Try.prog 36 #[v] w (Post (Own1Post RRatS l w)) := by
  obtain ⟨ad, c, rfl, hc, hm, hg⟩ := hl.elems
  unfold maxLen at hm
  have HG := Lib.hid hg; clear hg hl
  have hln : l.length ≤ 1048576 := by omega
  obtain ⟨i0, hi, hz0, hz1, hz2⟩ := info_parts infoRat
  go_enter Try.func36, Try.ntmps36
  go_wp2_with (at_make; refine wpList_make_full _ rfl _ _ 31 rfl w.heap.size 51 i0 _ 3 Try.underlying31 hi hz0 hz1 _ _ _ _ l.length rfl rfl rfl rfl (by rw [hz2]; omega) (by unfold maxLen; omega) (Nat.le_refl _) ?_)
  intro w1 hown hgrow
  have hb0 : Below w.heap.size w w1 := (Below.refl _ _).grown hgrow (Nat.le_refl _) (by simp)
  have HM0 := Lib.hid (Made.start (A := RRat) hown); clear hown hgrow hi hz0 hz1 hz2
  go_wp2
  go_loopw [4] (fun i wr => ∃ k : Nat, k ≤ l.length ∧ i = .int .i64 k ∧ Made RRat wr w.heap.size l.length 51 (l.take k) ∧ Below w.heap.size w wr) (fun i _ => l.length - (intOf i).toNat)
  case atStart => exact ⟨0, Nat.zero_le _, rfl, HM0.out, hb0⟩
  case round =>
    obtain ⟨k, hk, rfl, hM, hbw⟩ := hrel
    have HM := Lib.hid hM; clear hM
    by_cases hkl : k < l.length
    rotate_left
    · obtain rfl : k = l.length := by omega
      go_wp2
      go_ret
      have h := HM.out
      rw [List.take_length] at h
      exact ⟨_, rfl, h.own rfl (by unfold maxLen; omega) (Nat.le_refl _), hbw⟩
    have hgl : w.heap.size < wr.heap.size := HM.out.lt
    obtain ⟨b, off, cs, rfl, hbl, hx, hcs⟩ := HG.out k hkl
    obtain ⟨c0, c1, c2, rfl⟩ := list3 hx.len
    have HX := Lib.hid hx
    have hts : tRat l[k] ≤ 1048576 := by have h1 := tRatS_snoc (l.take k) l[k]; rw [← List.take_succ_eq_append_getElem hkl] at h1; have h2 := tRatS_take l (k + 1); omega
    have HTS := Lib.hid hts
    have g0 : wr.cell? ⟨b, off + k * 3, none⟩ = some c0 := (hbw.cell (p := ⟨b, _, none⟩) hbl).trans (hcs 0 _ rfl)
    have g1 : wr.cell? ⟨b, off + k * 3 + 1, none⟩ = some c1 := (hbw.cell (p := ⟨b, _, none⟩) hbl).trans (hcs 1 _ rfl)
    have g2 : wr.cell? ⟨b, off + k * 3 + 2, none⟩ = some c2 := (hbw.cell (p := ⟨b, _, none⟩) hbl).trans (hcs 2 _ rfl)
    clear hcs hx hts
    go_wp2_with fail
    refine (toRat_any _ _ _ _ _ (HX.out.below hbw) HTS.out).mono ?_
    rintro e w2 ⟨v1, rfl, ⟨cs1, rfl, ho1⟩, hbx⟩
    obtain ⟨v1_0, v1_1, v1_2, rfl⟩ := list3 ho1.has.len
    have ov1_0 := ho1.has.one 0 _ rfl
    have ov1_1 := ho1.has.one 1 _ rfl
    have ov1_2 := ho1.has.one 2 _ rfl
    have HO := Lib.hid ho1; clear ho1
    have hb2 := Below.up hbw hbx hbw.size
    have hM2 := HM.out.below hbx
    have hkm : (k + 1) * 3 ≤ l.length * 3 := Nat.mul_le_mul_right _ hkl
    obtain ⟨y0, hy0⟩ : ∃ y, w2.cell? ⟨w.heap.size, k * 3, none⟩ = some y := hM2.cell _ (by show k * 3 < l.length * 3; omega)
    obtain ⟨y1, hy1⟩ : ∃ y, w2.cell? ⟨w.heap.size, k * 3 + 1, none⟩ = some y := hM2.cell _ (by show k * 3 + 1 < l.length * 3; omega)
    obtain ⟨y2, hy2⟩ : ∃ y, w2.cell? ⟨w.heap.size, k * 3 + 2, none⟩ = some y := hM2.cell _ (by show k * 3 + 2 < l.length * 3; omega)
    have hfz := hM2.frozen
    clear hM2
    go_wp2
    go_roundw
    case rel =>
      have hst := HM.out.step hbx HO.out (by rw [List.length_take]; omega)
      rw [← List.take_succ_eq_append_getElem hkl, List.length_take, Nat.min_eq_left hk] at hst
      exact ⟨k + 1, by omega, by go_num, hst, putCells_below w.heap.size [v1_0, v1_1, v1_2] _ (k * 3) hb2 (Nat.le_refl _)⟩
    case measure => simp [intOf]; omega
theorem infoStep : (Try.prog.info? 80).map (fun i => (i.zero, i.size, i.bytes)) = some (some (.agg #[.int .i64 0, .bool false, .slice none 0 0, .slice none 0 0, .bool false, .slice none 0 0, .slice none 0 0]), 7, 120) := by kernel_rfl
set_option maxRecDepth 100000 in
set_option maxHeartbeats 400000 in
theorem toStepS_any (v : Value) (l : DStepS) (w : World) (hl : Has RStepS w [v] l) (hs : l.length + tStepS l ≤ 1048576) :
    Calls Try.prog 13 #[v] w (Post (Own1Post RStepS l w)) := by
  obtain ⟨ad, c, rfl, hc, hm, hg⟩ := hl.elems
  unfold maxLen at hm
  have HG := Lib.hid hg; clear hg hl
  have hln : l.length ≤ 1048576 := by omega
  obtain ⟨i0, hi, hz0, hz1, hz2⟩ := info_parts infoStep
  go_enter Try.func13, Try.ntmps13
  go_wp2_with (at_make; refine wpList_make_full _ rfl _ _ 25 rfl w.heap.size 80 i0 _ 7 Try.underlying25 hi hz0 hz1 _ _ _ _ l.length rfl rfl rfl rfl (by rw [hz2]; omega) (by unfold maxLen; omega) (Nat.le_refl _) ?_)
  intro w1 hown hgrow
  have hb0 : Below w.heap.size w w1 := (Below.refl _ _).grown hgrow (Nat.le_refl _) (by simp)
  have HM0 := Lib.hid (Made.start (A := RStep) hown); clear hown hgrow hi hz0 hz1 hz2
  go_wp2
  go_loopw [4] (fun i wr => ∃ k : Nat, k ≤ l.length ∧ i = .int .i64 k ∧ Made RStep wr w.heap.size l.length 80 (l.take k) ∧ Below w.heap.size w wr) (fun i _ => l.length - (intOf i).toNat)
  case atStart => exact ⟨0, Nat.zero_le _, rfl, HM0.out, hb0⟩
  case round =>
    obtain ⟨k, hk, rfl, hM, hbw⟩ := hrel
    have HM := Lib.hid hM; clear hM
    by_cases hkl : k < l.length
    rotate_left
    · obtain rfl : k = l.length := by omega
      go_wp2
      go_ret
      have h := HM.out
      rw [List.take_length] at h
      exact ⟨_, rfl, h.own rfl (by unfold maxLen; omega) (Nat.le_refl _), hbw⟩
    have hgl : w.heap.size < wr.heap.size := HM.out.lt
    obtain ⟨b, off, cs, rfl, hbl, hx, hcs⟩ := HG.out k hkl
    obtain ⟨c0, c1, c2, c3, c4, c5, c6, rfl⟩ := list7 hx.len
    have HX := Lib.hid hx
    have hts : tStep l[k] ≤ 1048576 := by have h1 := tStepS_snoc (l.take k) l[k]; rw [← List.take_succ_eq_append_getElem hkl] at h1; have h2 := tStepS_take l (k + 1); omega
    have HTS := Lib.hid hts
    have g0 : wr.cell? ⟨b, off + k * 7, none⟩ = some c0 := (hbw.cell (p := ⟨b, _, none⟩) hbl).trans (hcs 0 _ rfl)
    have g1 : wr.cell? ⟨b, off + k * 7 + 1, none⟩ = some c1 := (hbw.cell (p := ⟨b, _, none⟩) hbl).trans (hcs 1 _ rfl)
    have g2 : wr.cell? ⟨b, off + k * 7 + 2, none⟩ = some c2 := (hbw.cell (p := ⟨b, _, none⟩) hbl).trans (hcs 2 _ rfl)
    have g3 : wr.cell? ⟨b, off + k * 7 + 3, none⟩ = some c3 := (hbw.cell (p := ⟨b, _, none⟩) hbl).trans (hcs 3 _ rfl)
    have g4 : wr.cell? ⟨b, off + k * 7 + 4, none⟩ = some c4 := (hbw.cell (p := ⟨b, _, none⟩) hbl).trans (hcs 4 _ rfl)
    have g5 : wr.cell? ⟨b, off + k * 7 + 5, none⟩ = some c5 := (hbw.cell (p := ⟨b, _, none⟩) hbl).trans (hcs 5 _ rfl)
    have g6 : wr.cell? ⟨b, off + k * 7 + 6, none⟩ = some c6 := (hbw.cell (p := ⟨b, _, none⟩) hbl).trans (hcs 6 _ rfl)
    clear hcs hx hts
    go_wp2_with fail
    refine (toStep_any _ _ _ _ _ _ _ _ _ (HX.out.below hbw) HTS.out).mono ?_
    rintro e w2 ⟨v1, rfl, ⟨cs1, rfl, ho1⟩, hbx⟩
    obtain ⟨v1_0, v1_1, v1_2, v1_3, v1_4, v1_5, v1_6, rfl⟩ := list7 ho1.has.len
    have ov1_0 := ho1.has.one 0 _ rfl
    have ov1_1 := ho1.has.one 1 _ rfl
    have ov1_2 := ho1.has.one 2 _ rfl
    have ov1_3 := ho1.has.one 3 _ rfl
    have ov1_4 := ho1.has.one 4 _ rfl
    have ov1_5 := ho1.has.one 5 _ rfl
    have ov1_6 := ho1.has.one 6 _ rfl
    have HO := Lib.hid ho1; clear ho1
    have hb2 := Below.up hbw hbx hbw.size
    have hM2 := HM.out.below hbx
    have hkm : (k + 1) * 7 ≤ l.length * 7 := Nat.mul_le_mul_right _ hkl
    obtain ⟨y0, hy0⟩ : ∃ y, w2.cell? ⟨w.heap.size, k * 7, none⟩ = some y := hM2.cell _ (by show k * 7 < l.length * 7; omega)
    obtain ⟨y1, hy1⟩ : ∃ y, w2.cell? ⟨w.heap.size, k * 7 + 1, none⟩ = some y := hM2.cell _ (by show k * 7 + 1 < l.length * 7; omega)
    obtain ⟨y2, hy2⟩ : ∃ y, w2.cell? ⟨w.heap.size, k * 7 + 2, none⟩ = some y := hM2.cell _ (by show k * 7 + 2 < l.length * 7; omega)
    obtain ⟨y3, hy3⟩ : ∃ y, w2.cell? ⟨w.heap.size, k * 7 + 3, none⟩ = some y := hM2.cell _ (by show k * 7 + 3 < l.length * 7; omega)
    obtain ⟨y4, hy4⟩ : ∃ y, w2.cell? ⟨w.heap.size, k * 7 + 4, none⟩ = some y := hM2.cell _ (by show k * 7 + 4 < l.length * 7; omega)
    obtain ⟨y5, hy5⟩ : ∃ y, w2.cell? ⟨w.heap.size, k * 7 + 5, none⟩ = some y := hM2.cell _ (by show k * 7 + 5 < l.length * 7; omega)
    obtain ⟨y6, hy6⟩ : ∃ y, w2.cell? ⟨w.heap.size, k * 7 + 6, none⟩ = some y := hM2.cell _ (by show k * 7 + 6 < l.length * 7; omega)
    have hfz := hM2.frozen
    clear hM2
    go_wp2
    go_roundw
    case rel =>
      have hst := HM.out.step hbx HO.out (by rw [List.length_take]; omega)
      rw [← List.take_succ_eq_append_getElem hkl, List.length_take, Nat.min_eq_left hk] at hst
      exact ⟨k + 1, by omega, by go_num, hst, putCells_below w.heap.size [v1_0, v1_1, v1_2, v1_3, v1_4, v1_5, v1_6] _ (k * 7) hb2 (Nat.le_refl _)⟩
    case measure => simp [intOf]; omega
end Go.Proofs.Ytjkbecgenjhaaaa

namespace Go.Proofs.Ytjkbecgenjhaaaa
open Go.RowKit

set_option maxRecDepth 100000 in
set_option maxHeartbeats 400000 in
theorem eqIntS_any (va vb : Value) (a b : DIntS) (w : World) (ha : Has RIntS w [va] a) (hb : Has RIntS w [vb] b) :
    Calls Try.prog 22 #[va, vb] w (Post (EqPost a b w)) := by
  obtain ⟨aa, ca, rfl, la, ma, ga⟩ := ha.elems
  obtain ⟨ab, cb, rfl, lb, mb, gb⟩ := hb.elems
  unfold maxLen at ma mb
  have HA := Lib.hid ga; have HB := Lib.hid gb; clear ga gb ha hb
  by_cases hl : a.length = b.length
  rotate_left
  · have hn : ((a.length : Int) != (b.length : Int)) = true := by simp; omega
    have HL := Lib.hid hl; clear hl
    go_enter Try.func22, Try.ntmps22
    go_wp2
    go_ret
    exact ⟨_, rfl, congrArg Value.bool (eqb_false fun h => HL.out (by rw [h])).symm, Below.refl _ _⟩
  have hn : ((a.length : Int) != (b.length : Int)) = false := by simp; omega
  have HL := Lib.hid hl; clear hl
  go_enter Try.func22, Try.ntmps22
  go_wp2
  go_loopw [5] (fun i wr => ∃ k : Nat, k ≤ a.length ∧ i = .int .i64 k ∧ a.take k = b.take k ∧ Below w.heap.size w wr) (fun i _ => a.length - (intOf i).toNat)
  case atStart => exact ⟨0, Nat.zero_le _, rfl, rfl, Below.refl _ _⟩
  case round =>
    obtain ⟨k, hk, rfl, htk, hbw⟩ := hrel
    have HT := Lib.hid htk; clear htk
    by_cases hlt : k < a.length
    rotate_left
    · go_wp2
      go_ret
      exact ⟨_, rfl, congrArg Value.bool (eqb_true (by have h1 := HT.out; have h2 := HL.out; rwa [List.take_of_length_le (by omega), List.take_of_length_le (by omega)] at h1)).symm, hbw⟩
    have hlt' : k < b.length := by have := HL.out; omega
    obtain ⟨b1, o1, cs1, rfl, hbl, hx, hcs⟩ := HA.out k hlt
    obtain ⟨b2, o2, cs2, rfl, hbl2, hy, hds⟩ := HB.out k hlt'
    obtain ⟨c0, rfl⟩ := list1 hx.len
    obtain ⟨d0, rfl⟩ := list1 hy.len
    obtain rfl := hx.int.1
    obtain rfl := hy.int.1
    have g0 : wr.cell? ⟨b1, o1 + k, none⟩ = some (.int .i64 a[k]) := (hbw.cell (p := ⟨b1, _, none⟩) hbl).trans (by simpa [Rp.int] using hcs 0 _ rfl)
    have e0 : wr.cell? ⟨b2, o2 + k, none⟩ = some (.int .i64 b[k]) := (hbw.cell (p := ⟨b2, _, none⟩) hbl2).trans (by simpa [Rp.int] using hds 0 _ rfl)
    clear hcs hds hx hy
    by_cases hab : a[k] = b[k]
    · have hn : (a[k] != b[k]) = false := by simp [hab]
      have HAB := Lib.hid hab; clear hab
      go_wp2
      go_quiet (fail)
      go_wp2
      go_roundw
      case rel => exact ⟨k + 1, by omega, by go_num, by rw [List.take_succ_eq_append_getElem hlt, List.take_succ_eq_append_getElem hlt', HT.out, HAB.out], hbw.drewN _⟩
      case measure => simp [intOf]; omega
    · have hn : (a[k] != b[k]) = true := by simp [hab]
      have HAB := Lib.hid hab; clear hab
      go_wp2
      go_quiet (fail)
      go_wp2
      go_ret
      exact ⟨_, rfl, congrArg Value.bool (eqb_false fun h => HAB.out (by subst h; rfl)).symm, hbw.drewN _⟩
set_option maxHeartbeats 400000 in
theorem eqBigInt_any (c0 c1 d0 d1 : Value) (x y : DBigInt) (w : World) (hx : Has RBigInt w [c0, c1] x) (hy : Has RBigInt w [d0, d1] y) :
    Calls Try.prog 83 #[.agg #[c0, c1], .agg #[d0, d1]] w (Post (EqPost x y w)) := by
  obtain ⟨hx0, hx1⟩ := hx.split [c0] [c1] rfl
  obtain ⟨hy0, hy1⟩ := hy.split [d0] [d1] rfl
  obtain rfl := hx0.bool
  obtain rfl := hy0.bool
  have HX1 := Lib.hid hx1
  have HY1 := Lib.hid hy1
  clear hx hy hx0 hx1 hy0 hy1
  by_cases he0 : x.1 = y.1
  rotate_left
  · have hn : (!(x.1 == y.1)) = true := by simp [he0]
    have HN := Lib.hid he0; clear he0
    go_enter Try.func83, Try.ntmps83
    go_wp2
    go_ret
    exact ⟨_, rfl, congrArg Value.bool (eqb_false fun h => HN.out (by rw [h])).symm, ((Below.refl w.heap.size w).alloc (Nat.le_refl _) _).alloc (by simp) _⟩
  have hn0 : (!(x.1 == y.1)) = false := by simp [he0]
  have HE0 := Lib.hid he0; clear he0
  go_enter Try.func83, Try.ntmps83
  have hb0 := ((Below.refl w.heap.size w).alloc (Nat.le_refl _) (Obj.cells #[.bool x.1, c1] 49)).alloc (by simp) (Obj.cells #[.bool y.1, d1] 49)
  go_wp2_with fail
  refine (eqIntS_any _ _ _ _ _ (HX1.out.below hb0) (HY1.out.below hb0)).mono ?_
  rintro e w1 ⟨v, rfl, rfl, hbx1⟩
  have hb1 := Below.up hb0 hbx1 hb0.size
  by_cases he1 : x.2 = y.2
  rotate_left
  · rw [eqb_false he1]
    have HN := Lib.hid he1; clear he1
    go_wp2
    go_ret
    exact ⟨_, rfl, congrArg Value.bool (eqb_false fun h => HN.out (by rw [h])).symm, hb1⟩
  rw [eqb_true he1]
  have HE1 := Lib.hid he1; clear he1
  go_wp2
  go_ret
  exact ⟨_, rfl, congrArg Value.bool (eqb_true (Prod.ext HE0.out (HE1.out))).symm, hb1⟩
set_option maxHeartbeats 400000 in
theorem eqRat_any (c0 c1 c2 d0 d1 d2 : Value) (x y : DRat) (w : World) (hx : Has RRat w [c0, c1, c2] x) (hy : Has RRat w [d0, d1, d2] y) :
    Calls Try.prog 40 #[.agg #[c0, c1, c2], .agg #[d0, d1, d2]] w (Post (EqPost x y w)) := by
  obtain ⟨hx0, hx1⟩ := hx.split [c0, c1] [c2] rfl
  obtain ⟨hy0, hy1⟩ := hy.split [d0, d1] [d2] rfl
  have HX0 := Lib.hid hx0
  have HY0 := Lib.hid hy0
  have HX1 := Lib.hid hx1
  have HY1 := Lib.hid hy1
  clear hx hy hx0 hx1 hy0 hy1
  go_enter Try.func40, Try.ntmps40
  have hb0 := ((Below.refl w.heap.size w).alloc (Nat.le_refl _) (Obj.cells #[c0, c1, c2] 51)).alloc (by simp) (Obj.cells #[d0, d1, d2] 51)
  go_wp2_with fail
  refine (eqBigInt_any _ _ _ _ _ _ _ (HX0.out.below hb0) (HY0.out.below hb0)).mono ?_
  rintro e w1 ⟨v, rfl, rfl, hbx1⟩
  have hb1 := Below.up hb0 hbx1 hb0.size
  obtain ⟨hc1, hf1⟩ := bcell hbx1
  by_cases he0 : x.1 = y.1
  rotate_left
  · rw [eqb_false he0]
    have HN := Lib.hid he0; clear he0
    go_wp2
    go_ret
    exact ⟨_, rfl, congrArg Value.bool (eqb_false fun h => HN.out (by rw [h])).symm, hb1⟩
  rw [eqb_true he0]
  have HE0 := Lib.hid he0; clear he0
  go_wp2_with fail
  refine (eqIntS_any _ _ _ _ _ (HX1.out.below hb1) (HY1.out.below hb1)).mono ?_
  rintro e w2 ⟨v, rfl, rfl, hbx2⟩
  have hb2 := Below.up hb1 hbx2 hb1.size
  by_cases he1 : x.2 = y.2
  rotate_left
  · rw [eqb_false he1]
    have HN := Lib.hid he1; clear he1
    go_wp2
    go_ret
    exact ⟨_, rfl, congrArg Value.bool (eqb_false fun h => HN.out (by rw [h])).symm, hb2⟩
  rw [eqb_true he1]
  have HE1 := Lib.hid he1; clear he1
  go_wp2
  go_ret
  exact ⟨_, rfl, congrArg Value.bool (eqb_true (Prod.ext HE0.out (HE1.out))).symm, hb2⟩
set_option maxHeartbeats 400000 in
theorem eqPoint_any (c0 c1 c2 c3 c4 c5 d0 d1 d2 d3 d4 d5 : Value) (x y : DPoint) (w : World) (hx : Has RPoint w [c0, c1, c2, c3, c4, c5] x) (hy : Has RPoint w [d0, d1, d2, d3, d4, d5] y) :
    Calls Try.prog 47 #[.agg #[c0, c1, c2, c3, c4, c5], .agg #[d0, d1, d2, d3, d4, d5]] w (Post (EqPost x y w)) := by
  obtain ⟨hx0, hx1⟩ := hx.split [c0, c1, c2] [c3, c4, c5] rfl
  obtain ⟨hy0, hy1⟩ := hy.split [d0, d1, d2] [d3, d4, d5] rfl
  have HX0 := Lib.hid hx0
  have HY0 := Lib.hid hy0
  have HX1 := Lib.hid hx1
  have HY1 := Lib.hid hy1
  clear hx hy hx0 hx1 hy0 hy1
  go_enter Try.func47, Try.ntmps47
  have hb0 := ((Below.refl w.heap.size w).alloc (Nat.le_refl _) (Obj.cells #[c0, c1, c2, c3, c4, c5] 53)).alloc (by simp) (Obj.cells #[d0, d1, d2, d3, d4, d5] 53)
  go_wp2_with fail
  refine (eqRat_any _ _ _ _ _ _ _ _ _ (HX0.out.below hb0) (HY0.out.below hb0)).mono ?_
  rintro e w1 ⟨v, rfl, rfl, hbx1⟩
  have hb1 := Below.up hb0 hbx1 hb0.size
  obtain ⟨hc1, hf1⟩ := bcell hbx1
  by_cases he0 : x.1 = y.1
  rotate_left
  · rw [eqb_false he0]
    have HN := Lib.hid he0; clear he0
    go_wp2
    go_ret
    exact ⟨_, rfl, congrArg Value.bool (eqb_false fun h => HN.out (by rw [h])).symm, hb1⟩
  rw [eqb_true he0]
  have HE0 := Lib.hid he0; clear he0
  go_wp2_with fail
  refine (eqRat_any _ _ _ _ _ _ _ _ _ (HX1.out.below hb1) (HY1.out.below hb1)).mono ?_
  rintro e w2 ⟨v, rfl, rfl, hbx2⟩
  have hb2 := Below.up hb1 hbx2 hb1.size
  by_cases he1 : x.2 = y.2
  rotate_left
  · rw [eqb_false he1]
    have HN := Lib.hid he1; clear he1
    go_wp2
    go_ret
    exact ⟨_, rfl, congrArg Value.bool (eqb_false fun h => HN.out (by rw [h])).symm, hb2⟩
  rw [eqb_true he1]
  have HE1 := Lib.hid he1; clear he1
  go_wp2
  go_ret
  exact ⟨_, rfl, congrArg Value.bool (eqb_true (Prod.ext HE0.out (HE1.out))).symm, hb2⟩
set_option maxHeartbeats 400000 in
theorem eqPlacement_any (c0 c1 c2 c3 c4 c5 c6 d0 d1 d2 d3 d4 d5 d6 : Value) (x y : DPlacement) (w : World) (hx : Has RPlacement w [c0, c1, c2, c3, c4, c5, c6] x) (hy : Has RPlacement w [d0, d1, d2, d3, d4, d5, d6] y) :
    Calls Try.prog 30 #[.agg #[c0, c1, c2, c3, c4, c5, c6], .agg #[d0, d1, d2, d3, d4, d5, d6]] w (Post (EqPost x y w)) := by
  obtain ⟨hx0, hx1⟩ := hx.split [c0] [c1, c2, c3, c4, c5, c6] rfl
  obtain ⟨hy0, hy1⟩ := hy.split [d0] [d1, d2, d3, d4, d5, d6] rfl
  obtain rfl := hx0.int.1
  obtain rfl := hy0.int.1
  have HX1 := Lib.hid hx1
  have HY1 := Lib.hid hy1
  clear hx hy hx0 hx1 hy0 hy1
  by_cases he0 : x.1 = y.1
  rotate_left
  · have hn : (x.1 != y.1) = true := by simp [he0]
    have HN := Lib.hid he0; clear he0
    go_enter Try.func30, Try.ntmps30
    go_wp2
    go_ret
    exact ⟨_, rfl, congrArg Value.bool (eqb_false fun h => HN.out (by rw [h])).symm, ((Below.refl w.heap.size w).alloc (Nat.le_refl _) _).alloc (by simp) _⟩
  have hn0 : (x.1 != y.1) = false := by simp [he0]
  have HE0 := Lib.hid he0; clear he0
  go_enter Try.func30, Try.ntmps30
  have hb0 := ((Below.refl w.heap.size w).alloc (Nat.le_refl _) (Obj.cells #[.int .i64 x.1, c1, c2, c3, c4, c5, c6] 55)).alloc (by simp) (Obj.cells #[.int .i64 y.1, d1, d2, d3, d4, d5, d6] 55)
  go_wp2_with fail
  refine (eqPoint_any _ _ _ _ _ _ _ _ _ _ _ _ _ _ _ (HX1.out.below hb0) (HY1.out.below hb0)).mono ?_
  rintro e w1 ⟨v, rfl, rfl, hbx1⟩
  have hb1 := Below.up hb0 hbx1 hb0.size
  by_cases he1 : x.2 = y.2
  rotate_left
  · rw [eqb_false he1]
    have HN := Lib.hid he1; clear he1
    go_wp2
    go_ret
    exact ⟨_, rfl, congrArg Value.bool (eqb_false fun h => HN.out (by rw [h])).symm, hb1⟩
  rw [eqb_true he1]
  have HE1 := Lib.hid he1; clear he1
  go_wp2
  go_ret
  exact ⟨_, rfl, congrArg Value.bool (eqb_true (Prod.ext HE0.out (HE1.out))).symm, hb1⟩
set_option maxHeartbeats 400000 in
theorem eqStep_any (c0 c1 c2 c3 c4 c5 c6 d0 d1 d2 d3 d4 d5 d6 : Value) (x y : DStep) (w : World) (hx : Has RStep w [c0, c1, c2, c3, c4, c5, c6] x) (hy : Has RStep w [d0, d1, d2, d3, d4, d5, d6] y) :
    Calls Try.prog 55 #[.agg #[c0, c1, c2, c3, c4, c5, c6], .agg #[d0, d1, d2, d3, d4, d5, d6]] w (Post (EqPost x y w)) := by
  obtain ⟨hx0, hx1⟩ := hx.split [c0] [c1, c2, c3, c4, c5, c6] rfl
  obtain ⟨hy0, hy1⟩ := hy.split [d0] [d1, d2, d3, d4, d5, d6] rfl
  obtain rfl := hx0.int.1
  obtain rfl := hy0.int.1
  have HX1 := Lib.hid hx1
  have HY1 := Lib.hid hy1
  clear hx hy hx0 hx1 hy0 hy1
  by_cases he0 : x.1 = y.1
  rotate_left
  · have hn : (x.1 != y.1) = true := by simp [he0]
    have HN := Lib.hid he0; clear he0
    go_enter Try.func55, Try.ntmps55
    go_wp2
    go_ret
    exact ⟨_, rfl, congrArg Value.bool (eqb_false fun h => HN.out (by rw [h])).symm, ((Below.refl w.heap.size w).alloc (Nat.le_refl _) _).alloc (by simp) _⟩
  have hn0 : (x.1 != y.1) = false := by simp [he0]
  have HE0 := Lib.hid he0; clear he0
  go_enter Try.func55, Try.ntmps55
  have hb0 := ((Below.refl w.heap.size w).alloc (Nat.le_refl _) (Obj.cells #[.int .i64 x.1, c1, c2, c3, c4, c5, c6] 80)).alloc (by simp) (Obj.cells #[.int .i64 y.1, d1, d2, d3, d4, d5, d6] 80)
  go_wp2_with fail
  refine (eqPoint_any _ _ _ _ _ _ _ _ _ _ _ _ _ _ _ (HX1.out.below hb0) (HY1.out.below hb0)).mono ?_
  rintro e w1 ⟨v, rfl, rfl, hbx1⟩
  have hb1 := Below.up hb0 hbx1 hb0.size
  by_cases he1 : x.2 = y.2
  rotate_left
  · rw [eqb_false he1]
    have HN := Lib.hid he1; clear he1
    go_wp2
    go_ret
    exact ⟨_, rfl, congrArg Value.bool (eqb_false fun h => HN.out (by rw [h])).symm, hb1⟩
  rw [eqb_true he1]
  have HE1 := Lib.hid he1; clear he1
  go_wp2
  go_ret
  exact ⟨_, rfl, congrArg Value.bool (eqb_true (Prod.ext HE0.out (HE1.out))).symm, hb1⟩
set_option maxRecDepth 100000 in
set_option maxHeartbeats 400000 in
theorem eqRatS_any (va vb : Value) (a b : DRatS) (w : World) (ha : Has RRatS w [va] a) (hb : Has RRatS w [vb] b) :
    Calls Try.prog 21 #[va, vb] w (Post (EqPost a b w)) := by
  obtain ⟨aa, ca, rfl, la, ma, ga⟩ := ha.elems
  obtain ⟨ab, cb, rfl, lb, mb, gb⟩ := hb.elems
  unfold maxLen at ma mb
  have HA := Lib.hid ga; have HB := Lib.hid gb; clear ga gb ha hb
  by_cases hl : a.length = b.length
  rotate_left
  · have hn : ((a.length : Int) != (b.length : Int)) = true := by simp; omega
    have HL := Lib.hid hl; clear hl
    go_enter Try.func21, Try.ntmps21
    go_wp2
    go_ret
    exact ⟨_, rfl, congrArg Value.bool (eqb_false fun h => HL.out (by rw [h])).symm, Below.refl _ _⟩
  have hn : ((a.length : Int) != (b.length : Int)) = false := by simp; omega
  have HL := Lib.hid hl; clear hl
  go_enter Try.func21, Try.ntmps21
  go_wp2
  go_loopw [5] (fun i wr => ∃ k : Nat, k ≤ a.length ∧ i = .int .i64 k ∧ a.take k = b.take k ∧ Below w.heap.size w wr) (fun i _ => a.length - (intOf i).toNat)
  case atStart => exact ⟨0, Nat.zero_le _, rfl, rfl, Below.refl _ _⟩
  case round =>
    obtain ⟨k, hk, rfl, htk, hbw⟩ := hrel
    have HT := Lib.hid htk; clear htk
    by_cases hlt : k < a.length
    rotate_left
    · go_wp2
      go_ret
      exact ⟨_, rfl, congrArg Value.bool (eqb_true (by have h1 := HT.out; have h2 := HL.out; rwa [List.take_of_length_le (by omega), List.take_of_length_le (by omega)] at h1)).symm, hbw⟩
    have hlt' : k < b.length := by have := HL.out; omega
    obtain ⟨b1, o1, cs1, rfl, hbl, hx, hcs⟩ := HA.out k hlt
    obtain ⟨b2, o2, cs2, rfl, hbl2, hy, hds⟩ := HB.out k hlt'
    obtain ⟨c0, c1, c2, rfl⟩ := list3 hx.len
    obtain ⟨d0, d1, d2, rfl⟩ := list3 hy.len
    have g0 : wr.cell? ⟨b1, o1 + k * 3, none⟩ = some c0 := (hbw.cell (p := ⟨b1, _, none⟩) hbl).trans (hcs 0 _ rfl)
    have g1 : wr.cell? ⟨b1, o1 + k * 3 + 1, none⟩ = some c1 := (hbw.cell (p := ⟨b1, _, none⟩) hbl).trans (hcs 1 _ rfl)
    have g2 : wr.cell? ⟨b1, o1 + k * 3 + 2, none⟩ = some c2 := (hbw.cell (p := ⟨b1, _, none⟩) hbl).trans (hcs 2 _ rfl)
    have e0 : wr.cell? ⟨b2, o2 + k * 3, none⟩ = some d0 := (hbw.cell (p := ⟨b2, _, none⟩) hbl2).trans (hds 0 _ rfl)
    have e1 : wr.cell? ⟨b2, o2 + k * 3 + 1, none⟩ = some d1 := (hbw.cell (p := ⟨b2, _, none⟩) hbl2).trans (hds 1 _ rfl)
    have e2 : wr.cell? ⟨b2, o2 + k * 3 + 2, none⟩ = some d2 := (hbw.cell (p := ⟨b2, _, none⟩) hbl2).trans (hds 2 _ rfl)
    have HX := Lib.hid hx; have HY := Lib.hid hy
    clear hcs hds hx hy
    go_wp2
    go_still_tail 8, (by kernel_rfl)
    go_wp2_with fail
    refine (eqRat_any _ _ _ _ _ _ _ _ _ (HX.out.below (hbw.drew)) (HY.out.below (hbw.drew))).mono ?_
    rintro e w1 ⟨v, rfl, rfl, hbx⟩
    have hb1 := Below.up hbw.drew hbx hbw.size
    by_cases hab : a[k] = b[k]
    · rw [eqb_true hab]
      have HAB := Lib.hid hab; clear hab
      go_wp2
      go_roundw
      case rel => exact ⟨k + 1, by omega, by go_num, by rw [List.take_succ_eq_append_getElem hlt, List.take_succ_eq_append_getElem hlt', HT.out, HAB.out], hb1⟩
      case measure => simp [intOf]; omega
    · rw [eqb_false hab]
      have HAB := Lib.hid hab; clear hab
      go_wp2
      go_ret
      exact ⟨_, rfl, congrArg Value.bool (eqb_false fun h => HAB.out (by subst h; rfl)).symm, hb1⟩
set_option maxRecDepth 100000 in
set_option maxHeartbeats 400000 in
theorem eqStepS_any (va vb : Value) (a b : DStepS) (w : World) (ha : Has RStepS w [va] a) (hb : Has RStepS w [vb] b) :
    Calls Try.prog 15 #[va, vb] w (Post (EqPost a b w)) := by
  obtain ⟨aa, ca, rfl, la, ma, ga⟩ := ha.elems
  obtain ⟨ab, cb, rfl, lb, mb, gb⟩ := hb.elems
  unfold maxLen at ma mb
  have HA := Lib.hid ga; have HB := Lib.hid gb; clear ga gb ha hb
  by_cases hl : a.length = b.length
  rotate_left
  · have hn : ((a.length : Int) != (b.length : Int)) = true := by simp; omega
    have HL := Lib.hid hl; clear hl
    go_enter Try.func15, Try.ntmps15
    go_wp2
    go_ret
    exact ⟨_, rfl, congrArg Value.bool (eqb_false fun h => HL.out (by rw [h])).symm, Below.refl _ _⟩
  have hn : ((a.length : Int) != (b.length : Int)) = false := by simp; omega
  have HL := Lib.hid hl; clear hl
  go_enter Try.func15, Try.ntmps15
  go_wp2
  go_loopw [5] (fun i wr => ∃ k : Nat, k ≤ a.length ∧ i = .int .i64 k ∧ a.take k = b.take k ∧ Below w.heap.size w wr) (fun i _ => a.length - (intOf i).toNat)
  case atStart => exact ⟨0, Nat.zero_le _, rfl, rfl, Below.refl _ _⟩
  case round =>
    obtain ⟨k, hk, rfl, htk, hbw⟩ := hrel
    have HT := Lib.hid htk; clear htk
    by_cases hlt : k < a.length
    rotate_left
    · go_wp2
      go_ret
      exact ⟨_, rfl, congrArg Value.bool (eqb_true (by have h1 := HT.out; have h2 := HL.out; rwa [List.take_of_length_le (by omega), List.take_of_length_le (by omega)] at h1)).symm, hbw⟩
    have hlt' : k < b.length := by have := HL.out; omega
    obtain ⟨b1, o1, cs1, rfl, hbl, hx, hcs⟩ := HA.out k hlt
    obtain ⟨b2, o2, cs2, rfl, hbl2, hy, hds⟩ := HB.out k hlt'
    obtain ⟨c0, c1, c2, c3, c4, c5, c6, rfl⟩ := list7 hx.len
    obtain ⟨d0, d1, d2, d3, d4, d5, d6, rfl⟩ := list7 hy.len
    have g0 : wr.cell? ⟨b1, o1 + k * 7, none⟩ = some c0 := (hbw.cell (p := ⟨b1, _, none⟩) hbl).trans (hcs 0 _ rfl)
    have g1 : wr.cell? ⟨b1, o1 + k * 7 + 1, none⟩ = some c1 := (hbw.cell (p := ⟨b1, _, none⟩) hbl).trans (hcs 1 _ rfl)
    have g2 : wr.cell? ⟨b1, o1 + k * 7 + 2, none⟩ = some c2 := (hbw.cell (p := ⟨b1, _, none⟩) hbl).trans (hcs 2 _ rfl)
    have g3 : wr.cell? ⟨b1, o1 + k * 7 + 3, none⟩ = some c3 := (hbw.cell (p := ⟨b1, _, none⟩) hbl).trans (hcs 3 _ rfl)
    have g4 : wr.cell? ⟨b1, o1 + k * 7 + 4, none⟩ = some c4 := (hbw.cell (p := ⟨b1, _, none⟩) hbl).trans (hcs 4 _ rfl)
    have g5 : wr.cell? ⟨b1, o1 + k * 7 + 5, none⟩ = some c5 := (hbw.cell (p := ⟨b1, _, none⟩) hbl).trans (hcs 5 _ rfl)
    have g6 : wr.cell? ⟨b1, o1 + k * 7 + 6, none⟩ = some c6 := (hbw.cell (p := ⟨b1, _, none⟩) hbl).trans (hcs 6 _ rfl)
    have e0 : wr.cell? ⟨b2, o2 + k * 7, none⟩ = some d0 := (hbw.cell (p := ⟨b2, _, none⟩) hbl2).trans (hds 0 _ rfl)
    have e1 : wr.cell? ⟨b2, o2 + k * 7 + 1, none⟩ = some d1 := (hbw.cell (p := ⟨b2, _, none⟩) hbl2).trans (hds 1 _ rfl)
    have e2 : wr.cell? ⟨b2, o2 + k * 7 + 2, none⟩ = some d2 := (hbw.cell (p := ⟨b2, _, none⟩) hbl2).trans (hds 2 _ rfl)
    have e3 : wr.cell? ⟨b2, o2 + k * 7 + 3, none⟩ = some d3 := (hbw.cell (p := ⟨b2, _, none⟩) hbl2).trans (hds 3 _ rfl)
    have e4 : wr.cell? ⟨b2, o2 + k * 7 + 4, none⟩ = some d4 := (hbw.cell (p := ⟨b2, _, none⟩) hbl2).trans (hds 4 _ rfl)
    have e5 : wr.cell? ⟨b2, o2 + k * 7 + 5, none⟩ = some d5 := (hbw.cell (p := ⟨b2, _, none⟩) hbl2).trans (hds 5 _ rfl)
    have e6 : wr.cell? ⟨b2, o2 + k * 7 + 6, none⟩ = some d6 := (hbw.cell (p := ⟨b2, _, none⟩) hbl2).trans (hds 6 _ rfl)
    have HX := Lib.hid hx; have HY := Lib.hid hy
    clear hcs hds hx hy
    go_wp2
    go_still_tail 8, (by kernel_rfl)
    go_wp2_with fail
    refine (eqStep_any _ _ _ _ _ _ _ _ _ _ _ _ _ _ _ _ _ (HX.out.below (hbw.drew)) (HY.out.below (hbw.drew))).mono ?_
    rintro e w1 ⟨v, rfl, rfl, hbx⟩
    have hb1 := Below.up hbw.drew hbx hbw.size
    by_cases hab : a[k] = b[k]
    · rw [eqb_true hab]
      have HAB := Lib.hid hab; clear hab
      go_wp2
      go_roundw
      case rel => exact ⟨k + 1, by omega, by go_num, by rw [List.take_succ_eq_append_getElem hlt, List.take_succ_eq_append_getElem hlt', HT.out, HAB.out], hb1⟩
      case measure => simp [intOf]; omega
    · rw [eqb_false hab]
      have HAB := Lib.hid hab; clear hab
      go_wp2
      go_ret
      exact ⟨_, rfl, congrArg Value.bool (eqb_false fun h => HAB.out (by subst h; rfl)).symm, hb1⟩
end Go.Proofs.Ytjkbecgenjhaaaa

namespace Go.Proofs.Ytjkbecgenjhaaaa
open Go.RowKit

set_option maxHeartbeats 400000 in
theorem markIntS_any (v : Value) (x : DIntS) (k : Int) (fp : List Nat) (w : World) (hx : RIntS.rep w [v] x fp) (hn : fp.Nodup) (hf : ∀ b ∈ fp, Free w b) (h0 : 0 ≤ k) (h1 : k + x.length ≤ 1073741824) :
    Calls Try.prog 23 #[v, .int .i64 k] w (Post (MarkPost RIntS [v] (mkIntS x k) fp (k + x.length) w)) := by
  obtain ⟨ad, c, hv, hlc, hm, hh⟩ := hx
  injection hv with hv
  subst hv
  unfold maxLen at hm
  rcases hh with ⟨rfl, rfl⟩ | ⟨b, off, fps, hl, rfl, rfl, he⟩
  · go_enter Try.func23, Try.ntmps23
    go_wp2
    go_loopw [1, 5] (fun kk i wr => i = .int .i64 0 ∧ kk = .int .i64 k ∧ wr = w) (fun _ _ _ => 0)
    case atStart => exact ⟨rfl, rfl, rfl⟩
    case round =>
      obtain ⟨rfl, rfl, rfl⟩ := hrel
      go_wp2
      go_ret
      exact ⟨_, rfl, congrArg (Value.int .i64) (by simp), ⟨ad, c, rfl, hlc, by unfold maxLen; omega, .inl ⟨rfl, rfl⟩⟩, Upto.refl _ _⟩
  have HN := Lib.hid hn; have HF := Lib.hid hf; have HE := Lib.hid he; have HL := Lib.hid hl; clear hn hf he hl
  go_enter Try.func23, Try.ntmps23
  go_wp2
  go_loopw [1, 5] (fun kk i wr => ∃ j : Nat, j ≤ x.length ∧ i = .int .i64 j ∧ kk = .int .i64 (k + j) ∧ Elems Rp.int wr b off (mkIntS (x.take j) k ++ x.drop j) fps ∧ Upto (b :: fps.flatten) w wr) (fun _ i _ => x.length - (intOf i).toNat)
  case atStart => exact ⟨0, Nat.zero_le _, rfl, congrArg (Value.int .i64) (by simp), by simpa [mkIntS] using HE.out, Upto.refl _ _⟩
  case round =>
    obtain ⟨j, hj, rfl, rfl, hE, hU⟩ := hrel
    have HEr := Lib.hid hE; have HU := Lib.hid hU; clear hE hU
    by_cases hjl : j < x.length
    rotate_left
    · obtain rfl : j = x.length := by omega
      go_wp2
      go_ret
      have h := HEr.out
      rw [List.take_length, List.drop_length, List.append_nil] at h
      have hml : (mkIntS x k).length = x.length := by simp [mkIntS]
      exact ⟨_, rfl, rfl, ⟨_, c, by rw [hml], by rw [hml]; exact hlc, by unfold maxLen; omega, .inr ⟨b, off, fps, fun e => HL.out (List.eq_nil_of_length_eq_zero (by rw [← hml, e]; rfl)), rfl, rfl, h⟩⟩, HU.out⟩
    have hml : (mkIntS (x.take j) k).length = j := by simp [mkIntS]; omega
    have hget : (mkIntS (x.take j) k ++ x.drop j)[j]? = some x[j] := by rw [List.getElem?_append_right (by omega), hml]; simp
    obtain ⟨f, cs, hfj, hr, hcs⟩ := HEr.out.2 j _ hget
    obtain ⟨rfl, rfl, hI⟩ := hr
    have hfr := HU.out.free b List.mem_cons_self (HF.out b List.mem_cons_self)
    have g0 : wr.cell? ⟨b, off + j, none⟩ = some (.int .i64 x[j]) := by simpa [Rp.int] using hcs 0 _ rfl
    have hfz := hfr.frozen
    have HML := Lib.hid hml; have HFJ := Lib.hid hfj
    clear hml hget hcs hfj hfr
    go_wp2
    go_roundw
    case rel =>
      refine ⟨j + 1, by omega, by go_num, congrArg (Value.int .i64) (by omega), ?_, HU.out.setCell (p := ⟨b, off + j, none⟩) List.mem_cons_self _⟩
      have hup := HEr.out.update (w' := wr.setCell ⟨b, off + j, none⟩ (.int .i64 (k + j))) (x' := k + (j : Nat)) (cs' := [.int .i64 (k + j)]) HN.out HFJ.out ⟨rfl, rfl, by constructor <;> omega⟩
        (cells_cons (by simpa [Rp.int] using World.cell?_setCell_same wr ⟨b, off + j, none⟩ (.int .i64 (k + j)) g0) cells_nil)
        (fun z _ hz _ => Below.heap_setCell _ _ _ _ hz) (fun o ho => setCell_out _ (by simp [Rp.int] at ho; omega))
      have e : (mkIntS (x.take j) k ++ x.drop j).set j (k + (j : Nat)) = mkIntS (x.take (j + 1)) k ++ x.drop (j + 1) := by
        rw [List.set_append_right _ _ (by rw [HML.out]; exact Nat.le_refl _), HML.out, Nat.sub_self, List.drop_eq_getElem_cons hjl, List.set_cons_zero, show mkIntS (x.take (j + 1)) k = mkIntS (x.take j) k ++ [k + (j : Nat)] from by simp only [mkIntS, List.length_take, Nat.min_eq_left (Nat.le_of_lt hjl), Nat.min_eq_left (Nat.succ_le_of_lt hjl), List.range_succ, List.map_append]; rfl]
        simp
      rw [e] at hup
      exact hup
    case measure => simp [intOf]; omega
set_option maxRecDepth 100000 in
set_option maxHeartbeats 400000 in
theorem markBigInt_any (c0 c1 : Value) (x : DBigInt) (k : Int) (fp : List Nat) (w : World) (hx : RBigInt.rep w [c0, c1] x fp) (hn : fp.Nodup) (hf : ∀ b ∈ fp, Free w b) (h0 : 0 ≤ k) (h1 : k + cnBigInt x ≤ 1073741824) :
    Calls Try.prog 84 #[.agg #[c0, c1], .int .i64 k] w (Post (MarkPost RBigInt [c0, c1] (mkBigInt x k) fp (k + cnBigInt x) w)) := by
  have hlt := RBigInt.lt hx
  obtain ⟨f0, f1, rfl, hr0, hr1⟩ := rep_split [c0] [c1] rfl hx
  obtain ⟨hs0, rfl⟩ := hr0
  simp only [List.nil_append] at hn hf hlt ⊢
  have HS0 := Lib.hid hs0; clear hs0
  have HR1 := Lib.hid hr1; clear hr1
  have HN := Lib.hid hn; have HF := Lib.hid hf; have HLT := Lib.hid hlt; clear hn hf hlt hx
  have hub := h1; unfold cnBigInt at hub
  have hp1 : (0 : Int) ≤ (x.2.length : Nat) := Int.natCast_nonneg _
  have hend : k + (x.2.length : Nat) = k + (cnBigInt x : Nat) := by unfold cnBigInt; omega
  have HEND := Lib.hid hend; clear hend
  go_enter Try.func84, Try.ntmps84
  have hu0 : Below w.heap.size w (w.alloc (Obj.cells #[c0, c1] 49)) := (Below.refl w.heap.size w).alloc (Nat.le_refl _) _
  go_wp2_with fail
  refine (markIntS_any _ _ _ f1 _ (RIntS.frame HR1.out fun b hb => hu0.block b (HLT.out b (hb))) HN.out (fun b hb => (HF.out b (hb)).frame (hu0.block b (HLT.out b (hb)))) (by omega) (by omega)).mono ?_
  rintro e w1 ⟨v, rfl, rfl, hm1, hu1⟩
  have HMM1 := Lib.hid hm1; clear hm1
  go_wp2
  go_ret
  exact ⟨_, rfl, congrArg (Value.int .i64) HEND.out, (rep_pair (show Rp.bool.rep _ [c0] _ [] from ⟨HS0.out, rfl⟩) HMM1.out), (Upto.of_below hu0 (Nat.le_refl _)).trans hu1⟩
set_option maxRecDepth 100000 in
set_option maxHeartbeats 400000 in
theorem markRat_any (c0 c1 c2 : Value) (x : DRat) (k : Int) (fp : List Nat) (w : World) (hx : RRat.rep w [c0, c1, c2] x fp) (hn : fp.Nodup) (hf : ∀ b ∈ fp, Free w b) (h0 : 0 ≤ k) (h1 : k + cnRat x ≤ 1073741824) :
    Calls Try.prog 41 #[.agg #[c0, c1, c2], .int .i64 k] w (Post (MarkPost RRat [c0, c1, c2] (mkRat x k) fp (k + cnRat x) w)) := by
  have hlt := RRat.lt hx
  obtain ⟨f0, f1, rfl, hr0, hr1⟩ := rep_split [c0, c1] [c2] rfl hx
  obtain ⟨nd0, nd1, dj, dj2⟩ := nodup_app hn
  have HR0 := Lib.hid hr0; clear hr0
  have HR1 := Lib.hid hr1; clear hr1
  have HN := Lib.hid hn; have HF := Lib.hid hf; have HLT := Lib.hid hlt; clear hn hf hlt hx
  have hub := h1; unfold cnRat at hub
  have hp0 : (0 : Int) ≤ (cnBigInt x.1 : Nat) := Int.natCast_nonneg _
  have hp1 : (0 : Int) ≤ (x.2.length : Nat) := Int.natCast_nonneg _
  have hend : k + (cnBigInt x.1 : Nat) + (x.2.length : Nat) = k + (cnRat x : Nat) := by unfold cnRat; omega
  have HEND := Lib.hid hend; clear hend
  go_enter Try.func41, Try.ntmps41
  have hu0 : Below w.heap.size w (w.alloc (Obj.cells #[c0, c1, c2] 51)) := (Below.refl w.heap.size w).alloc (Nat.le_refl _) _
  go_wp2_with fail
  refine (markBigInt_any _ _ _ _ f0 _ (RBigInt.frame HR0.out fun b hb => hu0.block b (HLT.out b (List.mem_append.2 (.inl hb)))) nd0 (fun b hb => (HF.out b (List.mem_append.2 (.inl hb))).frame (hu0.block b (HLT.out b (List.mem_append.2 (.inl hb))))) (by omega) (by omega)).mono ?_
  rintro e w1 ⟨v, rfl, rfl, hm1, hu1⟩
  have HMM1 := Lib.hid hm1; clear hm1
  have hcb : ∀ o, w1.cell? ⟨w.heap.size, o, none⟩ = (w.alloc (Obj.cells #[c0, c1, c2] 51)).cell? ⟨w.heap.size, o, none⟩ := fun o => hu1.cell (by simp) (fun hb => absurd (HLT.out _ (List.mem_append.2 (.inl hb))) (by omega)) o
  go_wp2_with fail
  have hr11 : RIntS.rep w1 [c2] x.2 f1 := Rp.upto (RIntS.frame HR1.out fun b hb => hu0.block b (HLT.out b (List.mem_append.2 (.inr hb)))) hu1 dj2
  have hfr1 : ∀ b ∈ f1, Free w1 b := fun b hb => ((HF.out b (List.mem_append.2 (.inr hb))).frame (hu0.block b (HLT.out b (List.mem_append.2 (.inr hb))))).frame (hu1.block b (Nat.lt_of_lt_of_le (HLT.out b (List.mem_append.2 (.inr hb))) hu0.size) (dj2 b hb))
  refine (markIntS_any _ _ _ f1 _ hr11 nd1 hfr1 (by omega) (by omega)).mono ?_
  rintro e w2 ⟨v, rfl, rfl, hm2, hu2⟩
  have HMM2 := Lib.hid hm2; clear hm2
  go_wp2
  go_ret
  exact ⟨_, rfl, congrArg (Value.int .i64) HEND.out, (rep_pair (Rp.upto HMM1.out hu2 dj) HMM2.out), ((Upto.of_below hu0 (Nat.le_refl _)).trans (hu1.mono fun b hb => List.mem_append.2 (.inl hb))).trans (hu2.mono fun b hb => List.mem_append.2 (.inr hb))⟩
set_option maxRecDepth 100000 in
set_option maxHeartbeats 400000 in
theorem markPoint_any (c0 c1 c2 c3 c4 c5 : Value) (x : DPoint) (k : Int) (fp : List Nat) (w : World) (hx : RPoint.rep w [c0, c1, c2, c3, c4, c5] x fp) (hn : fp.Nodup) (hf : ∀ b ∈ fp, Free w b) (h0 : 0 ≤ k) (h1 : k + cnPoint x ≤ 1073741824) :
    Calls Try.prog 48 #[.agg #[c0, c1, c2, c3, c4, c5], .int .i64 k] w (Post (MarkPost RPoint [c0, c1, c2, c3, c4, c5] (mkPoint x k) fp (k + cnPoint x) w)) := by
  have hlt := RPoint.lt hx
  obtain ⟨f0, f1, rfl, hr0, hr1⟩ := rep_split [c0, c1, c2] [c3, c4, c5] rfl hx
  obtain ⟨nd0, nd1, dj, dj2⟩ := nodup_app hn
  have HR0 := Lib.hid hr0; clear hr0
  have HR1 := Lib.hid hr1; clear hr1
  have HN := Lib.hid hn; have HF := Lib.hid hf; have HLT := Lib.hid hlt; clear hn hf hlt hx
  have hub := h1; unfold cnPoint at hub
  have hp0 : (0 : Int) ≤ (cnRat x.1 : Nat) := Int.natCast_nonneg _
  have hp1 : (0 : Int) ≤ (cnRat x.2 : Nat) := Int.natCast_nonneg _
  have hend : k + (cnRat x.1 : Nat) + (cnRat x.2 : Nat) = k + (cnPoint x : Nat) := by unfold cnPoint; omega
  have HEND := Lib.hid hend; clear hend
  go_enter Try.func48, Try.ntmps48
  have hu0 : Below w.heap.size w (w.alloc (Obj.cells #[c0, c1, c2, c3, c4, c5] 53)) := (Below.refl w.heap.size w).alloc (Nat.le_refl _) _
  go_wp2_with fail
  refine (markRat_any _ _ _ _ _ f0 _ (RRat.frame HR0.out fun b hb => hu0.block b (HLT.out b (List.mem_append.2 (.inl hb)))) nd0 (fun b hb => (HF.out b (List.mem_append.2 (.inl hb))).frame (hu0.block b (HLT.out b (List.mem_append.2 (.inl hb))))) (by omega) (by omega)).mono ?_
  rintro e w1 ⟨v, rfl, rfl, hm1, hu1⟩
  have HMM1 := Lib.hid hm1; clear hm1
  have hcb : ∀ o, w1.cell? ⟨w.heap.size, o, none⟩ = (w.alloc (Obj.cells #[c0, c1, c2, c3, c4, c5] 53)).cell? ⟨w.heap.size, o, none⟩ := fun o => hu1.cell (by simp) (fun hb => absurd (HLT.out _ (List.mem_append.2 (.inl hb))) (by omega)) o
  go_wp2_with fail
  have hr11 : RRat.rep w1 [c3, c4, c5] x.2 f1 := Rp.upto (RRat.frame HR1.out fun b hb => hu0.block b (HLT.out b (List.mem_append.2 (.inr hb)))) hu1 dj2
  have hfr1 : ∀ b ∈ f1, Free w1 b := fun b hb => ((HF.out b (List.mem_append.2 (.inr hb))).frame (hu0.block b (HLT.out b (List.mem_append.2 (.inr hb))))).frame (hu1.block b (Nat.lt_of_lt_of_le (HLT.out b (List.mem_append.2 (.inr hb))) hu0.size) (dj2 b hb))
  refine (markRat_any _ _ _ _ _ f1 _ hr11 nd1 hfr1 (by omega) (by omega)).mono ?_
  rintro e w2 ⟨v, rfl, rfl, hm2, hu2⟩
  have HMM2 := Lib.hid hm2; clear hm2
  go_wp2
  go_ret
  exact ⟨_, rfl, congrArg (Value.int .i64) HEND.out, (rep_pair (Rp.upto HMM1.out hu2 dj) HMM2.out), ((Upto.of_below hu0 (Nat.le_refl _)).trans (hu1.mono fun b hb => List.mem_append.2 (.inl hb))).trans (hu2.mono fun b hb => List.mem_append.2 (.inr hb))⟩
set_option maxRecDepth 100000 in
set_option maxHeartbeats 400000 in
theorem markPlacement_any (c0 c1 c2 c3 c4 c5 c6 : Value) (x : DPlacement) (k : Int) (fp : List Nat) (w : World) (hx : RPlacement.rep w [c0, c1, c2, c3, c4, c5, c6] x fp) (hn : fp.Nodup) (hf : ∀ b ∈ fp, Free w b) (h0 : 0 ≤ k) (h1 : k + cnPlacement x ≤ 1073741824) :
    Calls Try.prog 31 #[.agg #[c0, c1, c2, c3, c4, c5, c6], .int .i64 k] w (Post (MarkPost RPlacement [c0, c1, c2, c3, c4, c5, c6] (mkPlacement x k) fp (k + cnPlacement x) w)) := by
  have hlt := RPlacement.lt hx
  obtain ⟨f0, f1, rfl, hr0, hr1⟩ := rep_split [c0] [c1, c2, c3, c4, c5, c6] rfl hx
  obtain ⟨hs0, rfl, hI0⟩ := hr0
  simp only [List.nil_append] at hn hf hlt ⊢
  have HS0 := Lib.hid hs0; clear hs0
  have HI0 := Lib.hid hI0; clear hI0
  have HR1 := Lib.hid hr1; clear hr1
  have HN := Lib.hid hn; have HF := Lib.hid hf; have HLT := Lib.hid hlt; clear hn hf hlt hx
  have hub := h1; unfold cnPlacement at hub
  have hp1 : (0 : Int) ≤ (cnPoint x.2 : Nat) := Int.natCast_nonneg _
  have hend : k + (cnPoint x.2 : Nat) = k + (cnPlacement x : Nat) := by unfold cnPlacement; omega
  have HEND := Lib.hid hend; clear hend
  go_enter Try.func31, Try.ntmps31
  have hu0 : Below w.heap.size w (w.alloc (Obj.cells #[c0, c1, c2, c3, c4, c5, c6] 55)) := (Below.refl w.heap.size w).alloc (Nat.le_refl _) _
  go_wp2_with fail
  refine (markPoint_any _ _ _ _ _ _ _ _ f1 _ (RPoint.frame HR1.out fun b hb => hu0.block b (HLT.out b (hb))) HN.out (fun b hb => (HF.out b (hb)).frame (hu0.block b (HLT.out b (hb)))) (by omega) (by omega)).mono ?_
  rintro e w1 ⟨v, rfl, rfl, hm1, hu1⟩
  have HMM1 := Lib.hid hm1; clear hm1
  go_wp2
  go_ret
  exact ⟨_, rfl, congrArg (Value.int .i64) HEND.out, (rep_pair (show Rp.int.rep _ [c0] _ [] from ⟨HS0.out, rfl, HI0.out⟩) HMM1.out), (Upto.of_below hu0 (Nat.le_refl _)).trans hu1⟩
set_option maxRecDepth 100000 in
set_option maxHeartbeats 1000000 in
theorem markRatS_any (v : Value) (x : DRatS) (k : Int) (fp : List Nat) (w : World) (hx : RRatS.rep w [v] x fp) (hn : fp.Nodup) (hf : ∀ b ∈ fp, Free w b) (h0 : 0 ≤ k) (h1 : k + cnRatS x ≤ 1073741824) :
    Calls Try.prog 24 #[v, .int .i64 k] w (Post (MarkPost RRatS [v] (mkRatS x k) fp (k + cnRatS x) w)) := by
  obtain ⟨ad, c, hv, hlc, hm, hh⟩ := hx
  injection hv with hv
  subst hv
  unfold maxLen at hm
  rcases hh with ⟨rfl, rfl⟩ | ⟨b, off, fps, hl, rfl, rfl, he⟩
  · go_enter Try.func24, Try.ntmps24
    go_wp2
    go_loopw [1, 5] (fun kk i wr => i = .int .i64 0 ∧ kk = .int .i64 k ∧ wr = w) (fun _ _ _ => 0)
    case atStart => exact ⟨rfl, rfl, rfl⟩
    case round =>
      obtain ⟨rfl, rfl, rfl⟩ := hrel
      go_wp2
      go_ret
      exact ⟨_, rfl, congrArg (Value.int .i64) (by simp [cnRatS]), ⟨ad, c, rfl, hlc, by unfold maxLen; omega, .inl ⟨rfl, rfl⟩⟩, Upto.refl _ _⟩
  have HN := Lib.hid hn; have HF := Lib.hid hf; have HE := Lib.hid he; have HL := Lib.hid hl; clear hn hf he hl
  go_enter Try.func24, Try.ntmps24
  go_wp2
  go_loopw [1, 5] (fun kk i wr => ∃ j : Nat, j ≤ x.length ∧ i = .int .i64 j ∧ kk = .int .i64 (k + (cnRatS (x.take j) : Nat)) ∧ Elems RRat wr b off (mkRatS (x.take j) k ++ x.drop j) fps ∧ Upto (b :: fps.flatten) w wr) (fun _ i _ => x.length - (intOf i).toNat)
  case atStart => exact ⟨0, Nat.zero_le _, rfl, congrArg (Value.int .i64) (by simp [cnRatS]), by simpa [mkRatS] using HE.out, Upto.refl _ _⟩
  case round =>
    obtain ⟨j, hj, rfl, rfl, hE, hU⟩ := hrel
    have HEr := Lib.hid hE; have HU := Lib.hid hU; clear hE hU
    by_cases hjl : j < x.length
    rotate_left
    · obtain rfl : j = x.length := by omega
      go_wp2
      go_ret
      have h := HEr.out
      rw [List.take_length, List.drop_length, List.append_nil] at h
      have hml := mkRatS_len x k
      exact ⟨_, rfl, congrArg (Value.int .i64) (by rw [List.take_length]), ⟨_, c, by rw [hml], by rw [hml]; exact hlc, by unfold maxLen; omega, .inr ⟨b, off, fps, fun e => HL.out (List.eq_nil_of_length_eq_zero (by rw [← hml, e]; rfl)), rfl, rfl, h⟩⟩, HU.out⟩
    have hml : (mkRatS (x.take j) k).length = j := by rw [mkRatS_len, List.length_take]; omega
    have hget : (mkRatS (x.take j) k ++ x.drop j)[j]? = some x[j] := by rw [List.getElem?_append_right (by omega), hml]; simp
    obtain ⟨f, cs, hfj, hr, hcs⟩ := HEr.out.2 j _ hget
    have hfr := HU.out.free b List.mem_cons_self (HF.out b List.mem_cons_self)
    have hbf : b ∉ f := fun h => (List.nodup_cons.1 HN.out).1 (flat_mem hfj b h)
    have hff : ∀ z ∈ f, Free wr z := fun z hz => HU.out.free z (List.mem_cons_of_mem _ (flat_mem hfj z hz)) (HF.out z (List.mem_cons_of_mem _ (flat_mem hfj z hz)))
    have hfn : f.Nodup := (List.pairwise_flatten.1 (List.nodup_cons.1 HN.out).2).1 f (List.mem_of_getElem? hfj)
    have hec : cnRatS (x.take j) + ecRat x[j] = cnRatS (x.take (j + 1)) := by rw [List.take_succ_eq_append_getElem hjl, cnRatS_snoc]
    have hect := cnRatS_take x (j + 1)
    obtain ⟨q, hq⟩ : ∃ q : Int, q = k + (cnRatS (x.take j) : Nat) := ⟨_, rfl⟩
    have hq0 : 0 ≤ q := by omega
    have hq1 : q + (ecRat x[j] : Nat) ≤ 1073741824 := by omega
    rw [← hq]
    have HQ := Lib.hid hq; have HEC := Lib.hid hec; have HML := Lib.hid hml; have HFJ := Lib.hid hfj
    clear hq hec hml hget hfj hect
    obtain ⟨c0, c1, c2, rfl⟩ := list3 (RRat.len hr)
    obtain ⟨f0, f1, rfl, hp0, hp1⟩ := rep_split [c0, c1] [c2] rfl hr
    obtain ⟨f2, f3, rfl, hp2, hp3⟩ := rep_split [c0] [c1] rfl hp0
    obtain ⟨he0, rfl⟩ := hp2
    injection he0 with he0; subst he0
    have hnd := hfn
    simp only [List.nil_append, List.append_assoc] at hnd
    have HFF := Lib.hid hff; have HBF := Lib.hid hbf; clear hff hbf hfn
    obtain ⟨nd0, nd1, dd0, de0⟩ := nodup_app hnd
    have hm0 : ∀ z ∈ f3, z ∈ (([] ++ f3) ++ f1) := fun z hz => (List.mem_append.2 (.inl (List.mem_append.2 (.inr hz))))
    have nb0 : b ∉ f3 := fun h => HBF.out (hm0 b h)
    have LP0_0 := Lib.hid hp3; have FR0_0 := Lib.hid (fun (z : Nat) (hz : z ∈ f3) => HFF.out z (hm0 z hz)); clear hp3
    have hl0 : (0 : Int) ≤ (x[j].1.2.length : Nat) := Int.natCast_nonneg _
    have hm1 : ∀ z ∈ f1, z ∈ (([] ++ f3) ++ f1) := fun z hz => (List.mem_append.2 (.inr hz))
    have nb1 : b ∉ f1 := fun h => HBF.out (hm1 b h)
    have LP1_0 := Lib.hid hp1; have FR1_0 := Lib.hid (fun (z : Nat) (hz : z ∈ f1) => HFF.out z (hm1 z hz)); clear hp1
    have hl1 : (0 : Int) ≤ (x[j].2.length : Nat) := Int.natCast_nonneg _
    have hqe := hq1; simp only [ecRat, ecBigInt] at hqe
    have hbl0 : b < wr.heap.size := hfr.lt
    have g0 : wr.cell? ⟨b, off + j * 3, none⟩ = some (Value.bool x[j].1.1) := hcs 0 _ rfl
    have g1 : wr.cell? ⟨b, off + j * 3 + 1, none⟩ = some c1 := hcs 1 _ rfl
    have g2 : wr.cell? ⟨b, off + j * 3 + 2, none⟩ = some c2 := hcs 2 _ rfl
    have hfz := hfr.frozen
    have HT0 := Lib.hid (Upto.refl (b :: (([] ++ f3) ++ f1)) wr)
    clear hcs hfr
    go_wp2_with fail
    have hB0 : Upto [b] wr _ := ((Upto.refl [b] wr).setCell (p := ⟨b, off + j * 3, none⟩) List.mem_cons_self (Value.bool ((q) % 3 == 0)))
    refine (markIntS_any _ _ _ f3 _ (Rp.upto LP0_0.out hB0 (fun z hz hb => nb0 (List.mem_singleton.1 hb ▸ hz))) nd0 (fun z hz => ((FR0_0.out z hz).setCell _ _)) (by omega) (by omega)).mono ?_
    rintro e w1 ⟨v, rfl, rfl, hmm, hu1⟩
    have hbl1 : b < w1.heap.size := Nat.lt_of_lt_of_le (by simpa using hbl0) hu1.size
    have hcb1 := hu1.cell (b := b) (by simpa using hbl0) nb0
    have hfb1 := hu1.frozen (b := b) (by simpa using hbl0) nb0
    have HT1 := Lib.hid ((HT0.out.setCell (p := ⟨b, off + j * 3, none⟩) List.mem_cons_self (Value.bool ((q) % 3 == 0))).trans (hu1.mono fun z hz => List.mem_cons_of_mem _ (hm0 z hz))); clear HT0
    have HO1 := Lib.hid (fun (o : Nat) (ho : o < off + j * 3 ∨ off + j * 3 + 3 ≤ o) => (hcb1 o).trans ((setCell_out (Value.bool ((q) % 3 == 0)) (by omega)).trans rfl)); 
    have LP0_1 := Lib.hid hmm; clear hmm LP0_0
    have LP1_1 := Lib.hid (Rp.upto (Rp.upto LP1_0.out hB0 (fun z hz hb => nb1 (List.mem_singleton.1 hb ▸ hz))) hu1 (fun z hz hy => dd0 z hy (hz))); clear LP1_0
    have FR1_1 := Lib.hid (fun (z : Nat) (hz : z ∈ f1) => (((FR1_0.out z hz).setCell _ _)).frame (hu1.block z (Free.lt ((FR1_0.out z hz).setCell _ _)) ((fun z hz hy => dd0 z hy (hz)) z hz))); clear FR1_0
    clear hu1 hB0 FR0_0
    go_wp2_with fail
    have hB1 : Upto [b] w1 _ := (Upto.refl [b] w1)
    refine (markIntS_any _ _ _ f1 _ (Rp.upto LP1_1.out hB1 (fun z hz hb => nb1 (List.mem_singleton.1 hb ▸ hz))) nd1 (fun z hz => (FR1_1.out z hz)) (by omega) (by omega)).mono ?_
    rintro e w2 ⟨v, rfl, rfl, hmm, hu2⟩
    have hbl2 : b < w2.heap.size := Nat.lt_of_lt_of_le (by simpa using hbl1) hu2.size
    have hcb2 := hu2.cell (b := b) (by simpa using hbl1) nb1
    have hfb2 := hu2.frozen (b := b) (by simpa using hbl1) nb1
    have HT2 := Lib.hid (HT1.out.trans (hu2.mono fun z hz => List.mem_cons_of_mem _ (hm1 z hz))); clear HT1
    have HO2 := Lib.hid (fun (o : Nat) (ho : o < off + j * 3 ∨ off + j * 3 + 3 ≤ o) => (hcb2 o).trans (HO1.out o ho)); clear HO1
    have LP0_2 := Lib.hid (Rp.upto (Rp.upto LP0_1.out hB1 (fun z hz hb => nb0 (List.mem_singleton.1 hb ▸ hz))) hu2 (fun z hy hz => dd0 z hy (hz))); clear LP0_1
    have LP1_2 := Lib.hid hmm; clear hmm LP1_1
    clear hu2 hB1 FR1_1
    go_wp2
    go_roundw
    case rel =>
      have e0 : w2.cell? ⟨b, off + j * 3, none⟩ = some (Value.bool ((q) % 3 == 0)) := by simp [go_sem, hcb1, hcb2, g0]
      have e1 : w2.cell? ⟨b, off + j * 3 + 1, none⟩ = some c1 := by simp [go_sem, hcb1, hcb2, g1]
      have e2 : w2.cell? ⟨b, off + j * 3 + 2, none⟩ = some c2 := by simp [go_sem, hcb1, hcb2, g2]
      have hup := HEr.out.update (w' := w2) (x' := emRat x[j] q) (cs' := [(Value.bool ((q) % 3 == 0)), c1, c2]) HN.out HFJ.out (rep_pair (rep_pair (rep_bool [] (by first | rfl | (simp only [ecRat, ecBigInt]; omega))) (rep_cast LP0_2.out (congrArg (mkIntS _) (by first | rfl | (simp only [ecRat, ecBigInt]; omega))))) (rep_cast LP1_2.out (congrArg (mkIntS _) (by first | rfl | (simp only [ecRat, ecBigInt]; omega))))) (cells_cons e0 (cells_cons e1 (cells_cons e2 cells_nil)))
        (fun z hz hzb hzf => (HT2.out).block z hz (by rw [List.mem_cons]; exact fun h => h.elim hzb hzf))
        (fun o ho => have ho : o < off + j * 3 ∨ off + j * 3 + 3 ≤ o := by have h1 : (j + 1) * 3 = j * 3 + 3 := Nat.succ_mul _ _; have h2 : o < off + j * 3 ∨ off + (j + 1) * 3 ≤ o := ho; omega
          (HO2.out o ho))
      have e : (mkRatS (x.take j) k ++ x.drop j).set j (emRat x[j] q) = mkRatS (x.take (j + 1)) k ++ x.drop (j + 1) := by
        rw [List.set_append_right _ _ (by rw [HML.out]; exact Nat.le_refl _), HML.out, Nat.sub_self, List.drop_eq_getElem_cons hjl, List.set_cons_zero, List.take_succ_eq_append_getElem hjl, mkRatS_snoc, ← HQ.out]
        simp
      rw [e] at hup
      refine ⟨j + 1, by omega, by go_num, congrArg (Value.int .i64) ?_, hup, HU.out.trans ((HT2.out).mono ?_)⟩
      · have h1 := HQ.out; have h2 := HEC.out; simp only [ecRat, ecBigInt] at h2; omega
      · intro z hz; rcases List.mem_cons.1 hz with rfl | hz; exact List.mem_cons_self; exact List.mem_cons_of_mem _ (flat_mem HFJ.out z hz)
    case measure => simp [intOf]; omega
set_option maxRecDepth 100000 in
set_option maxHeartbeats 1000000 in
theorem markStepS_any (v : Value) (x : DStepS) (k : Int) (fp : List Nat) (w : World) (hx : RStepS.rep w [v] x fp) (hn : fp.Nodup) (hf : ∀ b ∈ fp, Free w b) (h0 : 0 ≤ k) (h1 : k + cnStepS x ≤ 1073741824) :
    Calls Try.prog 32 #[v, .int .i64 k] w (Post (MarkPost RStepS [v] (mkStepS x k) fp (k + cnStepS x) w)) := by
  obtain ⟨ad, c, hv, hlc, hm, hh⟩ := hx
  injection hv with hv
  subst hv
  unfold maxLen at hm
  rcases hh with ⟨rfl, rfl⟩ | ⟨b, off, fps, hl, rfl, rfl, he⟩
  · go_enter Try.func32, Try.ntmps32
    go_wp2
    go_loopw [1, 5] (fun kk i wr => i = .int .i64 0 ∧ kk = .int .i64 k ∧ wr = w) (fun _ _ _ => 0)
    case atStart => exact ⟨rfl, rfl, rfl⟩
    case round =>
      obtain ⟨rfl, rfl, rfl⟩ := hrel
      go_wp2
      go_ret
      exact ⟨_, rfl, congrArg (Value.int .i64) (by simp [cnStepS]), ⟨ad, c, rfl, hlc, by unfold maxLen; omega, .inl ⟨rfl, rfl⟩⟩, Upto.refl _ _⟩
  have HN := Lib.hid hn; have HF := Lib.hid hf; have HE := Lib.hid he; have HL := Lib.hid hl; clear hn hf he hl
  go_enter Try.func32, Try.ntmps32
  go_wp2
  go_loopw [1, 5] (fun kk i wr => ∃ j : Nat, j ≤ x.length ∧ i = .int .i64 j ∧ kk = .int .i64 (k + (cnStepS (x.take j) : Nat)) ∧ Elems RStep wr b off (mkStepS (x.take j) k ++ x.drop j) fps ∧ Upto (b :: fps.flatten) w wr) (fun _ i _ => x.length - (intOf i).toNat)
  case atStart => exact ⟨0, Nat.zero_le _, rfl, congrArg (Value.int .i64) (by simp [cnStepS]), by simpa [mkStepS] using HE.out, Upto.refl _ _⟩
  case round =>
    obtain ⟨j, hj, rfl, rfl, hE, hU⟩ := hrel
    have HEr := Lib.hid hE; have HU := Lib.hid hU; clear hE hU
    by_cases hjl : j < x.length
    rotate_left
    · obtain rfl : j = x.length := by omega
      go_wp2
      go_ret
      have h := HEr.out
      rw [List.take_length, List.drop_length, List.append_nil] at h
      have hml := mkStepS_len x k
      exact ⟨_, rfl, congrArg (Value.int .i64) (by rw [List.take_length]), ⟨_, c, by rw [hml], by rw [hml]; exact hlc, by unfold maxLen; omega, .inr ⟨b, off, fps, fun e => HL.out (List.eq_nil_of_length_eq_zero (by rw [← hml, e]; rfl)), rfl, rfl, h⟩⟩, HU.out⟩
    have hml : (mkStepS (x.take j) k).length = j := by rw [mkStepS_len, List.length_take]; omega
    have hget : (mkStepS (x.take j) k ++ x.drop j)[j]? = some x[j] := by rw [List.getElem?_append_right (by omega), hml]; simp
    obtain ⟨f, cs, hfj, hr, hcs⟩ := HEr.out.2 j _ hget
    have hfr := HU.out.free b List.mem_cons_self (HF.out b List.mem_cons_self)
    have hbf : b ∉ f := fun h => (List.nodup_cons.1 HN.out).1 (flat_mem hfj b h)
    have hff : ∀ z ∈ f, Free wr z := fun z hz => HU.out.free z (List.mem_cons_of_mem _ (flat_mem hfj z hz)) (HF.out z (List.mem_cons_of_mem _ (flat_mem hfj z hz)))
    have hfn : f.Nodup := (List.pairwise_flatten.1 (List.nodup_cons.1 HN.out).2).1 f (List.mem_of_getElem? hfj)
    have hec : cnStepS (x.take j) + ecStep x[j] = cnStepS (x.take (j + 1)) := by rw [List.take_succ_eq_append_getElem hjl, cnStepS_snoc]
    have hect := cnStepS_take x (j + 1)
    obtain ⟨q, hq⟩ : ∃ q : Int, q = k + (cnStepS (x.take j) : Nat) := ⟨_, rfl⟩
    have hq0 : 0 ≤ q := by omega
    have hq1 : q + (ecStep x[j] : Nat) ≤ 1073741824 := by omega
    rw [← hq]
    have HQ := Lib.hid hq; have HEC := Lib.hid hec; have HML := Lib.hid hml; have HFJ := Lib.hid hfj
    clear hq hec hml hget hfj hect
    obtain ⟨c0, c1, c2, c3, c4, c5, c6, rfl⟩ := list7 (RStep.len hr)
    obtain ⟨f0, f1, rfl, hp0, hp1⟩ := rep_split [c0] [c1, c2, c3, c4, c5, c6] rfl hr
    obtain ⟨f2, f3, rfl, hp2, hp3⟩ := rep_split [c1, c2, c3] [c4, c5, c6] rfl hp1
    obtain ⟨f4, f5, rfl, hp4, hp5⟩ := rep_split [c1, c2] [c3] rfl hp2
    obtain ⟨f6, f7, rfl, hp6, hp7⟩ := rep_split [c1] [c2] rfl hp4
    obtain ⟨f8, f9, rfl, hp8, hp9⟩ := rep_split [c4, c5] [c6] rfl hp3
    obtain ⟨f10, f11, rfl, hp10, hp11⟩ := rep_split [c4] [c5] rfl hp8
    obtain ⟨he0, rfl, hI0⟩ := hp0
    injection he0 with he0; subst he0
    obtain ⟨he1, rfl⟩ := hp6
    injection he1 with he1; subst he1
    obtain ⟨he4, rfl⟩ := hp10
    injection he4 with he4; subst he4
    have hnd := hfn
    simp only [List.nil_append, List.append_assoc] at hnd
    have HFF := Lib.hid hff; have HBF := Lib.hid hbf; clear hff hbf hfn
    obtain ⟨nd0, hnd0, dd0, de0⟩ := nodup_app hnd
    obtain ⟨nd1, hnd1, dd1, de1⟩ := nodup_app hnd0
    obtain ⟨nd2, nd3, dd2, de2⟩ := nodup_app hnd1
    have hm0 : ∀ z ∈ f7, z ∈ ([] ++ ((([] ++ f7) ++ f5) ++ (([] ++ f11) ++ f9))) := fun z hz => (List.mem_append.2 (.inr (List.mem_append.2 (.inl (List.mem_append.2 (.inl (List.mem_append.2 (.inr hz))))))))
    have nb0 : b ∉ f7 := fun h => HBF.out (hm0 b h)
    have LP0_0 := Lib.hid hp7; have FR0_0 := Lib.hid (fun (z : Nat) (hz : z ∈ f7) => HFF.out z (hm0 z hz)); clear hp7
    have hl0 : (0 : Int) ≤ (x[j].2.1.1.2.length : Nat) := Int.natCast_nonneg _
    have hm1 : ∀ z ∈ f5, z ∈ ([] ++ ((([] ++ f7) ++ f5) ++ (([] ++ f11) ++ f9))) := fun z hz => (List.mem_append.2 (.inr (List.mem_append.2 (.inl (List.mem_append.2 (.inr hz))))))
    have nb1 : b ∉ f5 := fun h => HBF.out (hm1 b h)
    have LP1_0 := Lib.hid hp5; have FR1_0 := Lib.hid (fun (z : Nat) (hz : z ∈ f5) => HFF.out z (hm1 z hz)); clear hp5
    have hl1 : (0 : Int) ≤ (x[j].2.1.2.length : Nat) := Int.natCast_nonneg _
    have hm2 : ∀ z ∈ f11, z ∈ ([] ++ ((([] ++ f7) ++ f5) ++ (([] ++ f11) ++ f9))) := fun z hz => (List.mem_append.2 (.inr (List.mem_append.2 (.inr (List.mem_append.2 (.inl (List.mem_append.2 (.inr hz))))))))
    have nb2 : b ∉ f11 := fun h => HBF.out (hm2 b h)
    have LP2_0 := Lib.hid hp11; have FR2_0 := Lib.hid (fun (z : Nat) (hz : z ∈ f11) => HFF.out z (hm2 z hz)); clear hp11
    have hl2 : (0 : Int) ≤ (x[j].2.2.1.2.length : Nat) := Int.natCast_nonneg _
    have hm3 : ∀ z ∈ f9, z ∈ ([] ++ ((([] ++ f7) ++ f5) ++ (([] ++ f11) ++ f9))) := fun z hz => (List.mem_append.2 (.inr (List.mem_append.2 (.inr (List.mem_append.2 (.inr hz))))))
    have nb3 : b ∉ f9 := fun h => HBF.out (hm3 b h)
    have LP3_0 := Lib.hid hp9; have FR3_0 := Lib.hid (fun (z : Nat) (hz : z ∈ f9) => HFF.out z (hm3 z hz)); clear hp9
    have hl3 : (0 : Int) ≤ (x[j].2.2.2.length : Nat) := Int.natCast_nonneg _
    have hqe := hq1; simp only [ecStep, ecPoint, ecRat, ecBigInt] at hqe
    have hbl0 : b < wr.heap.size := hfr.lt
    have g0 : wr.cell? ⟨b, off + j * 7, none⟩ = some (Value.int .i64 x[j].1) := hcs 0 _ rfl
    have g1 : wr.cell? ⟨b, off + j * 7 + 1, none⟩ = some (Value.bool x[j].2.1.1.1) := hcs 1 _ rfl
    have g2 : wr.cell? ⟨b, off + j * 7 + 2, none⟩ = some c2 := hcs 2 _ rfl
    have g3 : wr.cell? ⟨b, off + j * 7 + 3, none⟩ = some c3 := hcs 3 _ rfl
    have g4 : wr.cell? ⟨b, off + j * 7 + 4, none⟩ = some (Value.bool x[j].2.2.1.1) := hcs 4 _ rfl
    have g5 : wr.cell? ⟨b, off + j * 7 + 5, none⟩ = some c5 := hcs 5 _ rfl
    have g6 : wr.cell? ⟨b, off + j * 7 + 6, none⟩ = some c6 := hcs 6 _ rfl
    have hfz := hfr.frozen
    have HT0 := Lib.hid (Upto.refl (b :: ([] ++ ((([] ++ f7) ++ f5) ++ (([] ++ f11) ++ f9)))) wr)
    clear hcs hfr
    go_wp2_with fail
    have hB0 : Upto [b] wr _ := (((Upto.refl [b] wr).setCell (p := ⟨b, off + j * 7, none⟩) List.mem_cons_self (Value.int .i64 (q))).setCell (p := ⟨b, off + j * 7 + 1, none⟩) List.mem_cons_self (Value.bool ((q + 1) % 3 == 0)))
    refine (markIntS_any _ _ _ f7 _ (Rp.upto LP0_0.out hB0 (fun z hz hb => nb0 (List.mem_singleton.1 hb ▸ hz))) nd0 (fun z hz => (((FR0_0.out z hz).setCell _ _).setCell _ _)) (by omega) (by omega)).mono ?_
    rintro e w1 ⟨v, rfl, rfl, hmm, hu1⟩
    have hbl1 : b < w1.heap.size := Nat.lt_of_lt_of_le (by simpa using hbl0) hu1.size
    have hcb1 := hu1.cell (b := b) (by simpa using hbl0) nb0
    have hfb1 := hu1.frozen (b := b) (by simpa using hbl0) nb0
    have HT1 := Lib.hid (((HT0.out.setCell (p := ⟨b, off + j * 7, none⟩) List.mem_cons_self (Value.int .i64 (q))).setCell (p := ⟨b, off + j * 7 + 1, none⟩) List.mem_cons_self (Value.bool ((q + 1) % 3 == 0))).trans (hu1.mono fun z hz => List.mem_cons_of_mem _ (hm0 z hz))); clear HT0
    have HO1 := Lib.hid (fun (o : Nat) (ho : o < off + j * 7 ∨ off + j * 7 + 7 ≤ o) => (hcb1 o).trans ((setCell_out (Value.bool ((q + 1) % 3 == 0)) (by omega)).trans ((setCell_out (Value.int .i64 (q)) (by omega)).trans rfl))); 
    have LP0_1 := Lib.hid hmm; clear hmm LP0_0
    have LP1_1 := Lib.hid (Rp.upto (Rp.upto LP1_0.out hB0 (fun z hz hb => nb1 (List.mem_singleton.1 hb ▸ hz))) hu1 (fun z hz hy => dd0 z hy (List.mem_append.2 (.inl hz)))); clear LP1_0
    have FR1_1 := Lib.hid (fun (z : Nat) (hz : z ∈ f5) => ((((FR1_0.out z hz).setCell _ _).setCell _ _)).frame (hu1.block z (Free.lt (((FR1_0.out z hz).setCell _ _).setCell _ _)) ((fun z hz hy => dd0 z hy (List.mem_append.2 (.inl hz))) z hz))); clear FR1_0
    have LP2_1 := Lib.hid (Rp.upto (Rp.upto LP2_0.out hB0 (fun z hz hb => nb2 (List.mem_singleton.1 hb ▸ hz))) hu1 (fun z hz hy => dd0 z hy (List.mem_append.2 (.inr (List.mem_append.2 (.inl hz)))))); clear LP2_0
    have FR2_1 := Lib.hid (fun (z : Nat) (hz : z ∈ f11) => ((((FR2_0.out z hz).setCell _ _).setCell _ _)).frame (hu1.block z (Free.lt (((FR2_0.out z hz).setCell _ _).setCell _ _)) ((fun z hz hy => dd0 z hy (List.mem_append.2 (.inr (List.mem_append.2 (.inl hz))))) z hz))); clear FR2_0
    have LP3_1 := Lib.hid (Rp.upto (Rp.upto LP3_0.out hB0 (fun z hz hb => nb3 (List.mem_singleton.1 hb ▸ hz))) hu1 (fun z hz hy => dd0 z hy (List.mem_append.2 (.inr (List.mem_append.2 (.inr (hz))))))); clear LP3_0
    have FR3_1 := Lib.hid (fun (z : Nat) (hz : z ∈ f9) => ((((FR3_0.out z hz).setCell _ _).setCell _ _)).frame (hu1.block z (Free.lt (((FR3_0.out z hz).setCell _ _).setCell _ _)) ((fun z hz hy => dd0 z hy (List.mem_append.2 (.inr (List.mem_append.2 (.inr (hz)))))) z hz))); clear FR3_0
    clear hu1 hB0 FR0_0
    go_wp2_with fail
    have hB1 : Upto [b] w1 _ := (Upto.refl [b] w1)
    refine (markIntS_any _ _ _ f5 _ (Rp.upto LP1_1.out hB1 (fun z hz hb => nb1 (List.mem_singleton.1 hb ▸ hz))) nd1 (fun z hz => (FR1_1.out z hz)) (by omega) (by omega)).mono ?_
    rintro e w2 ⟨v, rfl, rfl, hmm, hu2⟩
    have hbl2 : b < w2.heap.size := Nat.lt_of_lt_of_le (by simpa using hbl1) hu2.size
    have hcb2 := hu2.cell (b := b) (by simpa using hbl1) nb1
    have hfb2 := hu2.frozen (b := b) (by simpa using hbl1) nb1
    have HT2 := Lib.hid (HT1.out.trans (hu2.mono fun z hz => List.mem_cons_of_mem _ (hm1 z hz))); clear HT1
    have HO2 := Lib.hid (fun (o : Nat) (ho : o < off + j * 7 ∨ off + j * 7 + 7 ≤ o) => (hcb2 o).trans (HO1.out o ho)); clear HO1
    have LP0_2 := Lib.hid (Rp.upto (Rp.upto LP0_1.out hB1 (fun z hz hb => nb0 (List.mem_singleton.1 hb ▸ hz))) hu2 (fun z hy hz => dd0 z hy (List.mem_append.2 (.inl hz)))); clear LP0_1
    have LP1_2 := Lib.hid hmm; clear hmm LP1_1
    have LP2_2 := Lib.hid (Rp.upto (Rp.upto LP2_1.out hB1 (fun z hz hb => nb2 (List.mem_singleton.1 hb ▸ hz))) hu2 (fun z hz hy => dd1 z hy (List.mem_append.2 (.inl hz)))); clear LP2_1
    have FR2_2 := Lib.hid (fun (z : Nat) (hz : z ∈ f11) => ((FR2_1.out z hz)).frame (hu2.block z (Free.lt (FR2_1.out z hz)) ((fun z hz hy => dd1 z hy (List.mem_append.2 (.inl hz))) z hz))); clear FR2_1
    have LP3_2 := Lib.hid (Rp.upto (Rp.upto LP3_1.out hB1 (fun z hz hb => nb3 (List.mem_singleton.1 hb ▸ hz))) hu2 (fun z hz hy => dd1 z hy (List.mem_append.2 (.inr (hz))))); clear LP3_1
    have FR3_2 := Lib.hid (fun (z : Nat) (hz : z ∈ f9) => ((FR3_1.out z hz)).frame (hu2.block z (Free.lt (FR3_1.out z hz)) ((fun z hz hy => dd1 z hy (List.mem_append.2 (.inr (hz)))) z hz))); clear FR3_1
    clear hu2 hB1 FR1_1
    go_wp2_with fail
    have hB2 : Upto [b] w2 _ := ((Upto.refl [b] w2).setCell (p := ⟨b, off + j * 7 + 4, none⟩) List.mem_cons_self (Value.bool ((q + 1 + 1 + (x[j].2.1.1.2.length : Nat) + (x[j].2.1.2.length : Nat)) % 3 == 0)))
    refine (markIntS_any _ _ _ f11 _ (Rp.upto LP2_2.out hB2 (fun z hz hb => nb2 (List.mem_singleton.1 hb ▸ hz))) nd2 (fun z hz => ((FR2_2.out z hz).setCell _ _)) (by omega) (by omega)).mono ?_
    rintro e w3 ⟨v, rfl, rfl, hmm, hu3⟩
    have hbl3 : b < w3.heap.size := Nat.lt_of_lt_of_le (by simpa using hbl2) hu3.size
    have hcb3 := hu3.cell (b := b) (by simpa using hbl2) nb2
    have hfb3 := hu3.frozen (b := b) (by simpa using hbl2) nb2
    have HT3 := Lib.hid ((HT2.out.setCell (p := ⟨b, off + j * 7 + 4, none⟩) List.mem_cons_self (Value.bool ((q + 1 + 1 + (x[j].2.1.1.2.length : Nat) + (x[j].2.1.2.length : Nat)) % 3 == 0))).trans (hu3.mono fun z hz => List.mem_cons_of_mem _ (hm2 z hz))); clear HT2
    have HO3 := Lib.hid (fun (o : Nat) (ho : o < off + j * 7 ∨ off + j * 7 + 7 ≤ o) => (hcb3 o).trans ((setCell_out (Value.bool ((q + 1 + 1 + (x[j].2.1.1.2.length : Nat) + (x[j].2.1.2.length : Nat)) % 3 == 0)) (by omega)).trans (HO2.out o ho))); clear HO2
    have LP0_3 := Lib.hid (Rp.upto (Rp.upto LP0_2.out hB2 (fun z hz hb => nb0 (List.mem_singleton.1 hb ▸ hz))) hu3 (fun z hy hz => dd0 z hy (List.mem_append.2 (.inr (List.mem_append.2 (.inl hz)))))); clear LP0_2
    have LP1_3 := Lib.hid (Rp.upto (Rp.upto LP1_2.out hB2 (fun z hz hb => nb1 (List.mem_singleton.1 hb ▸ hz))) hu3 (fun z hy hz => dd1 z hy (List.mem_append.2 (.inl hz)))); clear LP1_2
    have LP2_3 := Lib.hid hmm; clear hmm LP2_2
    have LP3_3 := Lib.hid (Rp.upto (Rp.upto LP3_2.out hB2 (fun z hz hb => nb3 (List.mem_singleton.1 hb ▸ hz))) hu3 (fun z hz hy => dd2 z hy (hz))); clear LP3_2
    have FR3_3 := Lib.hid (fun (z : Nat) (hz : z ∈ f9) => (((FR3_2.out z hz).setCell _ _)).frame (hu3.block z (Free.lt ((FR3_2.out z hz).setCell _ _)) ((fun z hz hy => dd2 z hy (hz)) z hz))); clear FR3_2
    clear hu3 hB2 FR2_2
    go_wp2_with fail
    have hB3 : Upto [b] w3 _ := (Upto.refl [b] w3)
    refine (markIntS_any _ _ _ f9 _ (Rp.upto LP3_3.out hB3 (fun z hz hb => nb3 (List.mem_singleton.1 hb ▸ hz))) nd3 (fun z hz => (FR3_3.out z hz)) (by omega) (by omega)).mono ?_
    rintro e w4 ⟨v, rfl, rfl, hmm, hu4⟩
    have hbl4 : b < w4.heap.size := Nat.lt_of_lt_of_le (by simpa using hbl3) hu4.size
    have hcb4 := hu4.cell (b := b) (by simpa using hbl3) nb3
    have hfb4 := hu4.frozen (b := b) (by simpa using hbl3) nb3
    have HT4 := Lib.hid (HT3.out.trans (hu4.mono fun z hz => List.mem_cons_of_mem _ (hm3 z hz))); clear HT3
    have HO4 := Lib.hid (fun (o : Nat) (ho : o < off + j * 7 ∨ off + j * 7 + 7 ≤ o) => (hcb4 o).trans (HO3.out o ho)); clear HO3
    have LP0_4 := Lib.hid (Rp.upto (Rp.upto LP0_3.out hB3 (fun z hz hb => nb0 (List.mem_singleton.1 hb ▸ hz))) hu4 (fun z hy hz => dd0 z hy (List.mem_append.2 (.inr (List.mem_append.2 (.inr (hz))))))); clear LP0_3
    have LP1_4 := Lib.hid (Rp.upto (Rp.upto LP1_3.out hB3 (fun z hz hb => nb1 (List.mem_singleton.1 hb ▸ hz))) hu4 (fun z hy hz => dd1 z hy (List.mem_append.2 (.inr (hz))))); clear LP1_3
    have LP2_4 := Lib.hid (Rp.upto (Rp.upto LP2_3.out hB3 (fun z hz hb => nb2 (List.mem_singleton.1 hb ▸ hz))) hu4 (fun z hy hz => dd2 z hy (hz))); clear LP2_3
    have LP3_4 := Lib.hid hmm; clear hmm LP3_3
    clear hu4 hB3 FR3_3
    go_wp2
    go_roundw
    case rel =>
      have e0 : w4.cell? ⟨b, off + j * 7, none⟩ = some (Value.int .i64 (q)) := by simp [go_sem, hcb1, hcb2, hcb3, hcb4, g0]
      have e1 : w4.cell? ⟨b, off + j * 7 + 1, none⟩ = some (Value.bool ((q + 1) % 3 == 0)) := by simp [go_sem, hcb1, hcb2, hcb3, hcb4, g1]
      have e2 : w4.cell? ⟨b, off + j * 7 + 2, none⟩ = some c2 := by simp [go_sem, hcb1, hcb2, hcb3, hcb4, g2]
      have e3 : w4.cell? ⟨b, off + j * 7 + 3, none⟩ = some c3 := by simp [go_sem, hcb1, hcb2, hcb3, hcb4, g3]
      have e4 : w4.cell? ⟨b, off + j * 7 + 4, none⟩ = some (Value.bool ((q + 1 + 1 + (x[j].2.1.1.2.length : Nat) + (x[j].2.1.2.length : Nat)) % 3 == 0)) := by simp [go_sem, hcb1, hcb2, hcb3, hcb4, g4]
      have e5 : w4.cell? ⟨b, off + j * 7 + 5, none⟩ = some c5 := by simp [go_sem, hcb1, hcb2, hcb3, hcb4, g5]
      have e6 : w4.cell? ⟨b, off + j * 7 + 6, none⟩ = some c6 := by simp [go_sem, hcb1, hcb2, hcb3, hcb4, g6]
      have hup := HEr.out.update (w' := w4) (x' := emStep x[j] q) (cs' := [(Value.int .i64 (q)), (Value.bool ((q + 1) % 3 == 0)), c2, c3, (Value.bool ((q + 1 + 1 + (x[j].2.1.1.2.length : Nat) + (x[j].2.1.2.length : Nat)) % 3 == 0)), c5, c6]) HN.out HFJ.out (rep_pair (rep_int [] (by first | rfl | (simp only [ecStep, ecPoint, ecRat, ecBigInt]; omega)) (by constructor <;> omega)) (rep_pair (rep_pair (rep_pair (rep_bool [] (by first | rfl | (simp only [ecStep, ecPoint, ecRat, ecBigInt]; omega))) (rep_cast LP0_4.out (congrArg (mkIntS _) (by first | rfl | (simp only [ecStep, ecPoint, ecRat, ecBigInt]; omega))))) (rep_cast LP1_4.out (congrArg (mkIntS _) (by first | rfl | (simp only [ecStep, ecPoint, ecRat, ecBigInt]; omega))))) (rep_pair (rep_pair (rep_bool [] (by first | rfl | (simp only [ecStep, ecPoint, ecRat, ecBigInt]; omega))) (rep_cast LP2_4.out (congrArg (mkIntS _) (by first | rfl | (simp only [ecStep, ecPoint, ecRat, ecBigInt]; omega))))) (rep_cast LP3_4.out (congrArg (mkIntS _) (by first | rfl | (simp only [ecStep, ecPoint, ecRat, ecBigInt]; omega))))))) (cells_cons e0 (cells_cons e1 (cells_cons e2 (cells_cons e3 (cells_cons e4 (cells_cons e5 (cells_cons e6 cells_nil)))))))
        (fun z hz hzb hzf => (HT4.out).block z hz (by rw [List.mem_cons]; exact fun h => h.elim hzb hzf))
        (fun o ho => have ho : o < off + j * 7 ∨ off + j * 7 + 7 ≤ o := by have h1 : (j + 1) * 7 = j * 7 + 7 := Nat.succ_mul _ _; have h2 : o < off + j * 7 ∨ off + (j + 1) * 7 ≤ o := ho; omega
          (HO4.out o ho))
      have e : (mkStepS (x.take j) k ++ x.drop j).set j (emStep x[j] q) = mkStepS (x.take (j + 1)) k ++ x.drop (j + 1) := by
        rw [List.set_append_right _ _ (by rw [HML.out]; exact Nat.le_refl _), HML.out, Nat.sub_self, List.drop_eq_getElem_cons hjl, List.set_cons_zero, List.take_succ_eq_append_getElem hjl, mkStepS_snoc, ← HQ.out]
        simp
      rw [e] at hup
      refine ⟨j + 1, by omega, by go_num, congrArg (Value.int .i64) ?_, hup, HU.out.trans ((HT4.out).mono ?_)⟩
      · have h1 := HQ.out; have h2 := HEC.out; simp only [ecStep, ecPoint, ecRat, ecBigInt] at h2; omega
      · intro z hz; rcases List.mem_cons.1 hz with rfl | hz; exact List.mem_cons_self; exact List.mem_cons_of_mem _ (flat_mem HFJ.out z hz)
    case measure => simp [intOf]; omega
end Go.Proofs.Ytjkbecgenjhaaaa

namespace Go.Proofs.Ytjkbecgenjhaaaa
open Go.RowKit

set_option maxHeartbeats 400000 in
theorem heldIntS_any (v : Value) (x : DIntS) (k : Int) (w : World) (hx : Has RIntS w [v] (mkIntS x k)) (h0 : 0 ≤ k) (h1 : k + x.length ≤ 1073741824) :
    Calls Try.prog 67 #[v, .int .i64 k] w (Post (HeldPost (k + x.length) w)) := by
  obtain ⟨ad, c, rfl, hc, hm, hg⟩ := hx.elems
  have hml : (mkIntS x k).length = x.length := by simp [mkIntS]
  have hget : ∀ j, j < x.length → ∃ b off, ad = some ⟨b, off, none⟩ ∧ b < w.heap.size ∧ w.cell? ⟨b, off + j, none⟩ = some (.int .i64 (k + (j : Nat))) := by
    intro j hj
    obtain ⟨b, off, cs, ha, hb, hx, hcs⟩ := hg j (by omega)
    obtain ⟨c0, rfl⟩ := list1 hx.len
    have he := hx.int.1
    refine ⟨b, off, ha, hb, ?_⟩
    have h := hcs 0 _ rfl
    rw [he] at h
    simpa [Rp.int, mkIntS] using h
  rw [hml] at hc ⊢
  unfold maxLen at hm
  have HG := Lib.hid hget; clear hget hg hx hml
  go_enter Try.func67, Try.ntmps67
  go_wp2
  go_loopw [1, 5] (fun kk i wr => ∃ j : Nat, j ≤ x.length ∧ i = .int .i64 j ∧ kk = .int .i64 (k + (j : Nat)) ∧ Below w.heap.size w wr) (fun _ i _ => x.length - (intOf i).toNat)
  case atStart => exact ⟨0, Nat.zero_le _, rfl, congrArg (Value.int .i64) (by simp), Below.refl _ _⟩
  case round =>
    obtain ⟨j, hj, rfl, rfl, hbw⟩ := hrel
    by_cases hjl : j < x.length
    rotate_left
    · obtain rfl : j = x.length := by omega
      go_wp2
      go_ret
      exact ⟨_, rfl, rfl, hbw⟩
    obtain ⟨b, off, rfl, hbl, hcell⟩ := HG.out j hjl
    have g0 : wr.cell? ⟨b, off + j, none⟩ = some (.int .i64 (k + (j : Nat))) := (hbw.cell (p := ⟨b, _, none⟩) hbl).trans hcell
    clear hcell
    go_wp2
    go_roundw
    case rel => exact ⟨j + 1, by omega, by go_num, congrArg (Value.int .i64) (by omega), hbw⟩
    case measure => simp [intOf]; omega
set_option maxRecDepth 100000 in
set_option maxHeartbeats 400000 in
theorem heldBigInt_any (c0 c1 : Value) (x : DBigInt) (k : Int) (w : World) (hx : Has RBigInt w [c0, c1] (mkBigInt x k)) (h0 : 0 ≤ k) (h1 : k + cnBigInt x ≤ 1073741824) :
    Calls Try.prog 85 #[.agg #[c0, c1], .int .i64 k] w (Post (HeldPost (k + cnBigInt x) w)) := by
  obtain ⟨hx0, hx1⟩ := hx.split [c0] [c1] rfl
  have HX1 := Lib.hid (show Has RIntS w [c1] (mkIntS x.2 k) from hx1)
  clear hx hx0 hx1
  have hub := h1; unfold cnBigInt at hub
  have hp1 : (0 : Int) ≤ (x.2.length : Nat) := Int.natCast_nonneg _
  have hend : k + (x.2.length : Nat) = k + (cnBigInt x : Nat) := by unfold cnBigInt; omega
  have HEND := Lib.hid hend; clear hend
  go_enter Try.func85, Try.ntmps85
  have hb0 := (Below.refl w.heap.size w).alloc (Nat.le_refl _) (Obj.cells #[c0, c1] 49)
  go_wp2_with fail
  refine (heldIntS_any _ _ _ _ (HX1.out.below hb0) (by omega) (by omega)).mono ?_
  rintro e w1 ⟨v, rfl, rfl, hbx1⟩
  have hb1 := Below.up hb0 hbx1 hb0.size
  go_wp2
  go_ret
  exact ⟨_, rfl, congrArg (Value.int .i64) HEND.out, hb1⟩
set_option maxRecDepth 100000 in
set_option maxHeartbeats 400000 in
theorem heldRat_any (c0 c1 c2 : Value) (x : DRat) (k : Int) (w : World) (hx : Has RRat w [c0, c1, c2] (mkRat x k)) (h0 : 0 ≤ k) (h1 : k + cnRat x ≤ 1073741824) :
    Calls Try.prog 42 #[.agg #[c0, c1, c2], .int .i64 k] w (Post (HeldPost (k + cnRat x) w)) := by
  obtain ⟨hx0, hx1⟩ := hx.split [c0, c1] [c2] rfl
  have HX0 := Lib.hid (show Has RBigInt w [c0, c1] (mkBigInt x.1 k) from hx0)
  have HX1 := Lib.hid (show Has RIntS w [c2] (mkIntS x.2 (k + (cnBigInt x.1 : Nat))) from hx1)
  clear hx hx0 hx1
  have hub := h1; unfold cnRat at hub
  have hp0 : (0 : Int) ≤ (cnBigInt x.1 : Nat) := Int.natCast_nonneg _
  have hp1 : (0 : Int) ≤ (x.2.length : Nat) := Int.natCast_nonneg _
  have hend : k + (cnBigInt x.1 : Nat) + (x.2.length : Nat) = k + (cnRat x : Nat) := by unfold cnRat; omega
  have HEND := Lib.hid hend; clear hend
  go_enter Try.func42, Try.ntmps42
  have hb0 := (Below.refl w.heap.size w).alloc (Nat.le_refl _) (Obj.cells #[c0, c1, c2] 51)
  go_wp2_with fail
  refine (heldBigInt_any _ _ _ _ _ (HX0.out.below hb0) (by omega) (by omega)).mono ?_
  rintro e w1 ⟨v, rfl, rfl, hbx1⟩
  have hb1 := Below.up hb0 hbx1 hb0.size
  obtain ⟨hc1, hf1⟩ := bcell hbx1
  go_wp2_with fail
  refine (heldIntS_any _ _ _ _ (HX1.out.below hb1) (by omega) (by omega)).mono ?_
  rintro e w2 ⟨v, rfl, rfl, hbx2⟩
  have hb2 := Below.up hb1 hbx2 hb1.size
  go_wp2
  go_ret
  exact ⟨_, rfl, congrArg (Value.int .i64) HEND.out, hb2⟩
set_option maxRecDepth 100000 in
set_option maxHeartbeats 400000 in
theorem heldPoint_any (c0 c1 c2 c3 c4 c5 : Value) (x : DPoint) (k : Int) (w : World) (hx : Has RPoint w [c0, c1, c2, c3, c4, c5] (mkPoint x k)) (h0 : 0 ≤ k) (h1 : k + cnPoint x ≤ 1073741824) :
    Calls Try.prog 49 #[.agg #[c0, c1, c2, c3, c4, c5], .int .i64 k] w (Post (HeldPost (k + cnPoint x) w)) := by
  obtain ⟨hx0, hx1⟩ := hx.split [c0, c1, c2] [c3, c4, c5] rfl
  have HX0 := Lib.hid (show Has RRat w [c0, c1, c2] (mkRat x.1 k) from hx0)
  have HX1 := Lib.hid (show Has RRat w [c3, c4, c5] (mkRat x.2 (k + (cnRat x.1 : Nat))) from hx1)
  clear hx hx0 hx1
  have hub := h1; unfold cnPoint at hub
  have hp0 : (0 : Int) ≤ (cnRat x.1 : Nat) := Int.natCast_nonneg _
  have hp1 : (0 : Int) ≤ (cnRat x.2 : Nat) := Int.natCast_nonneg _
  have hend : k + (cnRat x.1 : Nat) + (cnRat x.2 : Nat) = k + (cnPoint x : Nat) := by unfold cnPoint; omega
  have HEND := Lib.hid hend; clear hend
  go_enter Try.func49, Try.ntmps49
  have hb0 := (Below.refl w.heap.size w).alloc (Nat.le_refl _) (Obj.cells #[c0, c1, c2, c3, c4, c5] 53)
  go_wp2_with fail
  refine (heldRat_any _ _ _ _ _ _ (HX0.out.below hb0) (by omega) (by omega)).mono ?_
  rintro e w1 ⟨v, rfl, rfl, hbx1⟩
  have hb1 := Below.up hb0 hbx1 hb0.size
  obtain ⟨hc1, hf1⟩ := bcell hbx1
  go_wp2_with fail
  refine (heldRat_any _ _ _ _ _ _ (HX1.out.below hb1) (by omega) (by omega)).mono ?_
  rintro e w2 ⟨v, rfl, rfl, hbx2⟩
  have hb2 := Below.up hb1 hbx2 hb1.size
  go_wp2
  go_ret
  exact ⟨_, rfl, congrArg (Value.int .i64) HEND.out, hb2⟩
set_option maxRecDepth 100000 in
set_option maxHeartbeats 1000000 in
theorem heldRatS_any (v : Value) (x : DRatS) (k : Int) (w : World) (hx : Has RRatS w [v] (mkRatS x k)) (h0 : 0 ≤ k) (h1 : k + cnRatS x ≤ 1073741824) :
    Calls Try.prog 25 #[v, .int .i64 k] w (Post (HeldPost (k + cnRatS x) w)) := by
  obtain ⟨ad, c, rfl, hc, hm, hg⟩ := hx.elems
  rw [mkRatS_len] at hc ⊢
  have hget : ∀ j (hj : j < x.length), ∃ b off cs, ad = some ⟨b, off, none⟩ ∧ b < w.heap.size ∧ Has RRat w cs (emRat x[j] (k + (cnRatS (x.take j) : Nat))) ∧ ∀ i u, cs[i]? = some u → w.cell? ⟨b, off + j * RRat.size + i, none⟩ = some u := by
    intro j hj
    obtain ⟨b, off, cs, ha, hb, hx, hcs⟩ := hg j (by rw [mkRatS_len]; exact hj)
    have he := mkRatS_get x k j x[j] (List.getElem?_eq_getElem hj)
    rw [List.getElem?_eq_getElem (by rw [mkRatS_len]; exact hj)] at he
    injection he with he
    rw [he] at hx
    exact ⟨b, off, cs, ha, hb, hx, hcs⟩
  unfold maxLen at hm
  have HG := Lib.hid hget; clear hget hg hx
  go_enter Try.func25, Try.ntmps25
  go_wp2
  go_loopw [1, 5] (fun kk i wr => ∃ j : Nat, j ≤ x.length ∧ i = .int .i64 j ∧ kk = .int .i64 (k + (cnRatS (x.take j) : Nat)) ∧ Below w.heap.size w wr) (fun _ i _ => x.length - (intOf i).toNat)
  case atStart => exact ⟨0, Nat.zero_le _, rfl, congrArg (Value.int .i64) (by simp [cnRatS]), Below.refl _ _⟩
  case round =>
    obtain ⟨j, hj, rfl, rfl, hbw⟩ := hrel
    by_cases hjl : j < x.length
    rotate_left
    · obtain rfl : j = x.length := by omega
      go_wp2
      go_ret
      exact ⟨_, rfl, congrArg (Value.int .i64) (by rw [List.take_length]), hbw⟩
    obtain ⟨b, off, cs, rfl, hbl, hx, hcs⟩ := HG.out j hjl
    obtain ⟨c0, c1, c2, rfl⟩ := list3 hx.len
    have hec : cnRatS (x.take j) + ecRat x[j] = cnRatS (x.take (j + 1)) := by rw [List.take_succ_eq_append_getElem hjl, cnRatS_snoc]
    have hect := cnRatS_take x (j + 1)
    obtain ⟨q, hq⟩ : ∃ q : Int, q = k + (cnRatS (x.take j) : Nat) := ⟨_, rfl⟩
    have hq0 : 0 ≤ q := by omega
    have hq1 : q + (ecRat x[j] : Nat) ≤ 1073741824 := by omega
    rw [← hq] at hx ⊢
    have HQ := Lib.hid hq; have HEC := Lib.hid hec
    clear hq hec hect
    obtain ⟨hp0, hp1⟩ := Has.split (A := RBigInt) [c0, c1] [c2] rfl hx
    obtain ⟨hp2, hp3⟩ := Has.split (A := Rp.bool) [c0] [c1] rfl hp0
    have hv0 : c0 = .bool ((q) % 3 == 0) := hp2.bool.trans (congrArg (fun t : Int => Value.bool (t % 3 == 0)) (by first | rfl | (simp only [ecRat, ecBigInt]; omega)))
    have HX0 := Lib.hid (Has.cast (b := mkIntS x[j].1.2 (q + 1)) hp3 (congrArg (mkIntS _) (by first | rfl | (simp only [ecRat, ecBigInt]; omega))))
    have hl0 : (0 : Int) ≤ (x[j].1.2.length : Nat) := Int.natCast_nonneg _
    have HX1 := Lib.hid (Has.cast (b := mkIntS x[j].2 (q + 1 + (x[j].1.2.length : Nat))) hp1 (congrArg (mkIntS _) (by first | rfl | (simp only [ecRat, ecBigInt]; omega))))
    have hl1 : (0 : Int) ≤ (x[j].2.length : Nat) := Int.natCast_nonneg _
    have hqe := hq1; simp only [ecRat, ecBigInt] at hqe
    have g0 : wr.cell? ⟨b, off + j * 3, none⟩ = some (.bool ((q) % 3 == 0)) := (hbw.cell (p := ⟨b, _, none⟩) hbl).trans ((hcs 0 _ rfl).trans (congrArg some hv0))
    have g1 : wr.cell? ⟨b, off + j * 3 + 1, none⟩ = some c1 := (hbw.cell (p := ⟨b, _, none⟩) hbl).trans (hcs 1 _ rfl)
    have g2 : wr.cell? ⟨b, off + j * 3 + 2, none⟩ = some c2 := (hbw.cell (p := ⟨b, _, none⟩) hbl).trans (hcs 2 _ rfl)
    have hbl0 : b < wr.heap.size := Nat.lt_of_lt_of_le hbl hbw.size
    clear hcs hx hp0 hp1 hp2 hp3 hv0
    go_wp2_with fail
    refine (heldIntS_any _ _ _ _ (HX0.out.below hbw) (by omega) (by omega)).mono ?_
    rintro e w1 ⟨v, rfl, rfl, hbx1⟩
    have hb1 := Below.up hbw hbx1 hbw.size
    have hbl1 : b < w1.heap.size := Nat.lt_of_lt_of_le hbl0 hbx1.size
    have hc1 := fun o => hbx1.cell (p := ⟨b, o, none⟩) hbl0
    go_wp2_with fail
    refine (heldIntS_any _ _ _ _ (HX1.out.below hb1) (by omega) (by omega)).mono ?_
    rintro e w2 ⟨v, rfl, rfl, hbx2⟩
    have hb2 := Below.up hb1 hbx2 hb1.size
    have hbl2 : b < w2.heap.size := Nat.lt_of_lt_of_le hbl1 hbx2.size
    have hc2 := fun o => hbx2.cell (p := ⟨b, o, none⟩) hbl1
    go_wp2
    go_roundw
    case rel =>
      exact ⟨j + 1, by omega, by go_num, congrArg (Value.int .i64) (by have h1 := HQ.out; have h2 := HEC.out; simp only [ecRat, ecBigInt] at h2; omega), hb2⟩
    case measure => simp [intOf]; omega
set_option maxRecDepth 100000 in
set_option maxHeartbeats 1000000 in
theorem heldStepS_any (v : Value) (x : DStepS) (k : Int) (w : World) (hx : Has RStepS w [v] (mkStepS x k)) (h0 : 0 ≤ k) (h1 : k + cnStepS x ≤ 1073741824) :
    Calls Try.prog 33 #[v, .int .i64 k] w (Post (HeldPost (k + cnStepS x) w)) := by
  obtain ⟨ad, c, rfl, hc, hm, hg⟩ := hx.elems
  rw [mkStepS_len] at hc ⊢
  have hget : ∀ j (hj : j < x.length), ∃ b off cs, ad = some ⟨b, off, none⟩ ∧ b < w.heap.size ∧ Has RStep w cs (emStep x[j] (k + (cnStepS (x.take j) : Nat))) ∧ ∀ i u, cs[i]? = some u → w.cell? ⟨b, off + j * RStep.size + i, none⟩ = some u := by
    intro j hj
    obtain ⟨b, off, cs, ha, hb, hx, hcs⟩ := hg j (by rw [mkStepS_len]; exact hj)
    have he := mkStepS_get x k j x[j] (List.getElem?_eq_getElem hj)
    rw [List.getElem?_eq_getElem (by rw [mkStepS_len]; exact hj)] at he
    injection he with he
    rw [he] at hx
    exact ⟨b, off, cs, ha, hb, hx, hcs⟩
  unfold maxLen at hm
  have HG := Lib.hid hget; clear hget hg hx
  go_enter Try.func33, Try.ntmps33
  go_wp2
  go_loopw [1, 5] (fun kk i wr => ∃ j : Nat, j ≤ x.length ∧ i = .int .i64 j ∧ kk = .int .i64 (k + (cnStepS (x.take j) : Nat)) ∧ Below w.heap.size w wr) (fun _ i _ => x.length - (intOf i).toNat)
  case atStart => exact ⟨0, Nat.zero_le _, rfl, congrArg (Value.int .i64) (by simp [cnStepS]), Below.refl _ _⟩
  case round =>
    obtain ⟨j, hj, rfl, rfl, hbw⟩ := hrel
    by_cases hjl : j < x.length
    rotate_left
    · obtain rfl : j = x.length := by omega
      go_wp2
      go_ret
      exact ⟨_, rfl, congrArg (Value.int .i64) (by rw [List.take_length]), hbw⟩
    obtain ⟨b, off, cs, rfl, hbl, hx, hcs⟩ := HG.out j hjl
    obtain ⟨c0, c1, c2, c3, c4, c5, c6, rfl⟩ := list7 hx.len
    have hec : cnStepS (x.take j) + ecStep x[j] = cnStepS (x.take (j + 1)) := by rw [List.take_succ_eq_append_getElem hjl, cnStepS_snoc]
    have hect := cnStepS_take x (j + 1)
    obtain ⟨q, hq⟩ : ∃ q : Int, q = k + (cnStepS (x.take j) : Nat) := ⟨_, rfl⟩
    have hq0 : 0 ≤ q := by omega
    have hq1 : q + (ecStep x[j] : Nat) ≤ 1073741824 := by omega
    rw [← hq] at hx ⊢
    have HQ := Lib.hid hq; have HEC := Lib.hid hec
    clear hq hec hect
    obtain ⟨hp0, hp1⟩ := Has.split (A := Rp.int) [c0] [c1, c2, c3, c4, c5, c6] rfl hx
    obtain ⟨hp2, hp3⟩ := Has.split (A := RRat) [c1, c2, c3] [c4, c5, c6] rfl hp1
    obtain ⟨hp4, hp5⟩ := Has.split (A := RBigInt) [c1, c2] [c3] rfl hp2
    obtain ⟨hp6, hp7⟩ := Has.split (A := Rp.bool) [c1] [c2] rfl hp4
    obtain ⟨hp8, hp9⟩ := Has.split (A := RBigInt) [c4, c5] [c6] rfl hp3
    obtain ⟨hp10, hp11⟩ := Has.split (A := Rp.bool) [c4] [c5] rfl hp8
    have hv0 : c0 = .int .i64 (q) := hp0.int.1.trans (congrArg (Value.int .i64) (by first | rfl | (simp only [ecStep, ecPoint, ecRat, ecBigInt]; omega)))
    have hv1 : c1 = .bool ((q + 1) % 3 == 0) := hp6.bool.trans (congrArg (fun t : Int => Value.bool (t % 3 == 0)) (by first | rfl | (simp only [ecStep, ecPoint, ecRat, ecBigInt]; omega)))
    have HX0 := Lib.hid (Has.cast (b := mkIntS x[j].2.1.1.2 (q + 1 + 1)) hp7 (congrArg (mkIntS _) (by first | rfl | (simp only [ecStep, ecPoint, ecRat, ecBigInt]; omega))))
    have hl0 : (0 : Int) ≤ (x[j].2.1.1.2.length : Nat) := Int.natCast_nonneg _
    have HX1 := Lib.hid (Has.cast (b := mkIntS x[j].2.1.2 (q + 1 + 1 + (x[j].2.1.1.2.length : Nat))) hp5 (congrArg (mkIntS _) (by first | rfl | (simp only [ecStep, ecPoint, ecRat, ecBigInt]; omega))))
    have hl1 : (0 : Int) ≤ (x[j].2.1.2.length : Nat) := Int.natCast_nonneg _
    have hv4 : c4 = .bool ((q + 1 + 1 + (x[j].2.1.1.2.length : Nat) + (x[j].2.1.2.length : Nat)) % 3 == 0) := hp10.bool.trans (congrArg (fun t : Int => Value.bool (t % 3 == 0)) (by first | rfl | (simp only [ecStep, ecPoint, ecRat, ecBigInt]; omega)))
    have HX2 := Lib.hid (Has.cast (b := mkIntS x[j].2.2.1.2 (q + 1 + 1 + (x[j].2.1.1.2.length : Nat) + (x[j].2.1.2.length : Nat) + 1)) hp11 (congrArg (mkIntS _) (by first | rfl | (simp only [ecStep, ecPoint, ecRat, ecBigInt]; omega))))
    have hl2 : (0 : Int) ≤ (x[j].2.2.1.2.length : Nat) := Int.natCast_nonneg _
    have HX3 := Lib.hid (Has.cast (b := mkIntS x[j].2.2.2 (q + 1 + 1 + (x[j].2.1.1.2.length : Nat) + (x[j].2.1.2.length : Nat) + 1 + (x[j].2.2.1.2.length : Nat))) hp9 (congrArg (mkIntS _) (by first | rfl | (simp only [ecStep, ecPoint, ecRat, ecBigInt]; omega))))
    have hl3 : (0 : Int) ≤ (x[j].2.2.2.length : Nat) := Int.natCast_nonneg _
    have hqe := hq1; simp only [ecStep, ecPoint, ecRat, ecBigInt] at hqe
    have g0 : wr.cell? ⟨b, off + j * 7, none⟩ = some (.int .i64 (q)) := (hbw.cell (p := ⟨b, _, none⟩) hbl).trans ((hcs 0 _ rfl).trans (congrArg some hv0))
    have g1 : wr.cell? ⟨b, off + j * 7 + 1, none⟩ = some (.bool ((q + 1) % 3 == 0)) := (hbw.cell (p := ⟨b, _, none⟩) hbl).trans ((hcs 1 _ rfl).trans (congrArg some hv1))
    have g2 : wr.cell? ⟨b, off + j * 7 + 2, none⟩ = some c2 := (hbw.cell (p := ⟨b, _, none⟩) hbl).trans (hcs 2 _ rfl)
    have g3 : wr.cell? ⟨b, off + j * 7 + 3, none⟩ = some c3 := (hbw.cell (p := ⟨b, _, none⟩) hbl).trans (hcs 3 _ rfl)
    have g4 : wr.cell? ⟨b, off + j * 7 + 4, none⟩ = some (.bool ((q + 1 + 1 + (x[j].2.1.1.2.length : Nat) + (x[j].2.1.2.length : Nat)) % 3 == 0)) := (hbw.cell (p := ⟨b, _, none⟩) hbl).trans ((hcs 4 _ rfl).trans (congrArg some hv4))
    have g5 : wr.cell? ⟨b, off + j * 7 + 5, none⟩ = some c5 := (hbw.cell (p := ⟨b, _, none⟩) hbl).trans (hcs 5 _ rfl)
    have g6 : wr.cell? ⟨b, off + j * 7 + 6, none⟩ = some c6 := (hbw.cell (p := ⟨b, _, none⟩) hbl).trans (hcs 6 _ rfl)
    have hbl0 : b < wr.heap.size := Nat.lt_of_lt_of_le hbl hbw.size
    clear hcs hx hp0 hp1 hp2 hp3 hp4 hp5 hp6 hp7 hp8 hp9 hp10 hp11 hv0 hv1 hv4
    go_wp2_with fail
    refine (heldIntS_any _ _ _ _ (HX0.out.below hbw) (by omega) (by omega)).mono ?_
    rintro e w1 ⟨v, rfl, rfl, hbx1⟩
    have hb1 := Below.up hbw hbx1 hbw.size
    have hbl1 : b < w1.heap.size := Nat.lt_of_lt_of_le hbl0 hbx1.size
    have hc1 := fun o => hbx1.cell (p := ⟨b, o, none⟩) hbl0
    go_wp2_with fail
    refine (heldIntS_any _ _ _ _ (HX1.out.below hb1) (by omega) (by omega)).mono ?_
    rintro e w2 ⟨v, rfl, rfl, hbx2⟩
    have hb2 := Below.up hb1 hbx2 hb1.size
    have hbl2 : b < w2.heap.size := Nat.lt_of_lt_of_le hbl1 hbx2.size
    have hc2 := fun o => hbx2.cell (p := ⟨b, o, none⟩) hbl1
    go_wp2_with fail
    refine (heldIntS_any _ _ _ _ (HX2.out.below hb2) (by omega) (by omega)).mono ?_
    rintro e w3 ⟨v, rfl, rfl, hbx3⟩
    have hb3 := Below.up hb2 hbx3 hb2.size
    have hbl3 : b < w3.heap.size := Nat.lt_of_lt_of_le hbl2 hbx3.size
    have hc3 := fun o => hbx3.cell (p := ⟨b, o, none⟩) hbl2
    go_wp2_with fail
    refine (heldIntS_any _ _ _ _ (HX3.out.below hb3) (by omega) (by omega)).mono ?_
    rintro e w4 ⟨v, rfl, rfl, hbx4⟩
    have hb4 := Below.up hb3 hbx4 hb3.size
    have hbl4 : b < w4.heap.size := Nat.lt_of_lt_of_le hbl3 hbx4.size
    have hc4 := fun o => hbx4.cell (p := ⟨b, o, none⟩) hbl3
    go_wp2
    go_roundw
    case rel =>
      exact ⟨j + 1, by omega, by go_num, congrArg (Value.int .i64) (by have h1 := HQ.out; have h2 := HEC.out; simp only [ecStep, ecPoint, ecRat, ecBigInt] at h2; omega), hb4⟩
    case measure => simp [intOf]; omega
end Go.Proofs.Ytjkbecgenjhaaaa

/-
  How many marks the data take: a bound by what the laws measure.
-/
namespace Go.Proofs.Ytjkbecgenjhaaaa
open Go.RowKit in
theorem Has.of {α : Type} {A : Rp α} {w : World} {cs : List Value} {a : α} {fp : List Nat} (h : A.rep w cs a fp) : Has A w cs a := ⟨fp, h⟩
theorem cnStepS_eq (l : DStepS) : cnStepS l = 3 * l.length + tStepS l := by
  induction l with
  | nil => rfl
  | cons x l ih =>
    simp only [cnStepS, tStepS, List.length_cons, ih]
    simp only [ecStep, ecPoint, ecRat, ecBigInt, tStep, tPoint, tRat, tBigInt]
    omega
theorem cnStepS_le (l : DStepS) : cnStepS l ≤ 3 * (l.length + tStepS l) := by have := cnStepS_eq l; omega
theorem cnRatS_eq (l : DRatS) : cnRatS l = l.length + tRatS l := by
  induction l with
  | nil => rfl
  | cons x l ih =>
    simp only [cnRatS, tRatS, List.length_cons, ih]
    simp only [ecRat, ecBigInt, tRat, tBigInt]
    omega
theorem cnRatS_le (l : DRatS) : cnRatS l ≤ 3 * (l.length + tRatS l) := by have := cnRatS_eq l; omega
theorem cnPoint_le (x : DPoint) : cnPoint x ≤ 3 * tPoint x := by simp only [cnPoint, cnRat, cnBigInt, tPoint, tRat, tBigInt]; omega
theorem cnPlacement_le (x : DPlacement) : cnPlacement x ≤ 3 * tPlacement x := cnPoint_le x.2
theorem cnRat_le (x : DRat) : cnRat x ≤ 3 * tRat x := by simp only [cnRat, cnBigInt, tRat, tBigInt]; omega
theorem cnBigInt_le (x : DBigInt) : cnBigInt x ≤ 3 * tBigInt x := by simp only [cnBigInt, tBigInt]; omega
end Go.Proofs.Ytjkbecgenjhaaaa

/-
  A slice that is built by append: what it holds, where its parts lie. No program here.
-/
namespace Go.Proofs.Ytjkbecgenjhaaaa
open Go.RowKit

/-- The slice v, of the call's ow from block 'base' on, holds the elements l. 'ow': the elements' ow blocks lie there too, no two alike. -/
def Grow {α : Type} (A : Rp α) (ow : Bool) (base : Nat) (w : World) (e : TypeId) (v : Value) (l : List α) : Prop :=
  ∃ (xs : List Value) (fps : List (List Nat)), w.ownsRow base e A.size v l.length xs ∧ fps.length = l.length ∧
    (∀ i x, l[i]? = some x → ∃ f cs, fps[i]? = some f ∧ A.rep w cs x f ∧ ∀ j c, cs[j]? = some c → xs[i * A.size + j]? = some c) ∧
    (∀ b ∈ fps.flatten, some b ≠ v.ownBlock) ∧ (ow = true → fps.flatten.Nodup ∧ ∀ b ∈ fps.flatten, base ≤ b ∧ Free w b)
section
variable {α : Type} {A : Rp α} {ow : Bool} {base : Nat} {w w' : World} {e : TypeId} {v : Value} {l : List α}
theorem Grow.nil (A : Rp α) (ow : Bool) (base : Nat) (w : World) (e : TypeId) : Grow A ow base w e (.slice none 0 0) [] :=
  ⟨[], [], World.ownsRow_nil w base e A.size, rfl, fun i x h => by simp at h, fun b h => by simp at h, fun _ => ⟨by simp, fun b h => by simp at h⟩⟩
/-- The literal '[]T{}'. -/
theorem Grow.lit (A : Rp α) (ow : Bool) (w : World) (e : TypeId) {base : Nat} (hb : base ≤ w.heap.size) : Grow A ow base (w.alloc (.cells #[] e)) e (.slice (some ⟨w.heap.size, 0, none⟩) 0 0) [] :=
  ⟨[], [], ⟨by simp, .inr ⟨w.heap.size, 0, #[], rfl, hb, heap_alloc_new w _, Nat.le_refl _, Nat.zero_le _, by simp, by simp⟩⟩, rfl, fun i x h => by simp at h, fun b h => by simp at h, fun _ => ⟨by simp, fun b h => by simp at h⟩⟩
theorem ownsRow_lt {base : Nat} {size n : Nat} {xs : List Value} (h : w.ownsRow base e size v n xs) {b : Nat} (hb : v.ownBlock = some b) : base ≤ b ∧ b < w.heap.size := h.lt b hb
theorem Grow.below (h : Grow A ow base w e v l) (hb : Below w.heap.size w w') : Grow A ow base w' e v l := by
  obtain ⟨xs, fps, ho, hl, he, hne, hn⟩ := h
  refine ⟨xs, fps, ho.kept (row := none) ⟨hb.os, hb.tape, hb.output, hb.size, fun k hk _ => hb.block k hk⟩ (by cases v.ownBlock <;> simp), hl, fun i x hx => ?_, hne, fun h => ⟨(hn h).1, fun b hb' => ⟨((hn h).2 b hb').1, ((hn h).2 b hb').2.frame (hb.block b ((hn h).2 b hb').2.lt)⟩⟩⟩
  obtain ⟨f, cs, hf, hr, hc⟩ := he i x hx
  exact ⟨f, cs, hf, A.frame hr fun b hb' => hb.block b (A.lt hr b hb'), hc⟩
theorem Grow.form (h : Grow A ow base w e v l) : ∃ ad c, v = .slice ad l.length c ∧ l.length ≤ c ∧ c ≤ maxLen := by
  obtain ⟨xs, fps, ho, _⟩ := h
  rcases ho.2 with ⟨rfl, h0⟩ | ⟨g, cap, cur, rfl, _, _, h1, h2, _⟩
  · exact ⟨none, 0, by rw [h0], by omega, by omega⟩
  · exact ⟨_, cap, rfl, h1, h2⟩
theorem Grow.rep (h : Grow A ow base w e v l) {p : 0 < A.size} : ∃ fp, (Rp.slice A p).rep w [v] l fp ∧ (ow = true → OwnFp base w fp) := by
  obtain ⟨xs, fps, ho, hl, he, hne, hn⟩ := h
  rcases ho.2 with ⟨rfl, h0⟩ | ⟨g, cap, cur, rfl, hbg, hg, h1, h2, h3, h4⟩
  · have : l = [] := List.eq_nil_of_length_eq_zero h0
    subst this
    exact ⟨[], ⟨none, 0, rfl, Nat.le_refl _, Nat.zero_le _, .inl ⟨rfl, rfl⟩⟩, fun _ => ⟨List.nodup_nil, fun b hb => by cases hb⟩⟩
  · by_cases hl0 : l = []
    · subst hl0
      exact ⟨[], ⟨_, cap, rfl, h1, h2, .inl ⟨rfl, rfl⟩⟩, fun _ => ⟨List.nodup_nil, fun b hb => by cases hb⟩⟩
    · refine ⟨g :: fps.flatten, ⟨_, cap, rfl, h1, h2, .inr ⟨g, 0, fps, hl0, rfl, rfl, hl, fun i x hx => ?_⟩⟩, fun h => ⟨List.nodup_cons.2 ⟨fun hm => hne g hm rfl, (hn h).1⟩, fun b hb => ?_⟩⟩
      · obtain ⟨f, cs, hf, hr, hc⟩ := he i x hx
        refine ⟨f, cs, hf, hr, fun j c hj => ?_⟩
        have hx2 := hc j c hj
        rw [Nat.zero_add, cell_of_row w g _ cur e (0, 0) hg, ← Array.getElem?_toList]
        rw [← h4, List.getElem?_take] at hx2
        split at hx2
        · exact hx2
        · cases hx2
      · rcases List.mem_cons.1 hb with rfl | hb
        · exact ⟨hbg, cur, e, hg⟩
        · exact (hn h).2 b hb
theorem Grow.own (h : Grow A true base w e v l) {p : 0 < A.size} : Own (Rp.slice A p) base w [v] l := let ⟨fp, hr, ho⟩ := h.rep (p := p); ⟨fp, hr, ho rfl⟩
theorem Grow.has (h : Grow A ow base w e v l) {p : 0 < A.size} : Has (Rp.slice A p) w [v] l := let ⟨fp, hr, _⟩ := h.rep (p := p); ⟨fp, hr⟩
/-- Behind the append of one element. -/
theorem Grow.step {w0 : World} {v' : Value} {x : α} {cs : List Value} {fx : List Nat} (h : Grow A ow base w0 e v l) (hb : Below w0.heap.size w0 w) (hx : A.rep w cs x fx)
    (hfx : ∀ b ∈ fx, b < base ∨ w0.heap.size ≤ b) (hox : ow = true → fx.Nodup ∧ ∀ b ∈ fx, w0.heap.size ≤ b ∧ Free w b) (hbase : base ≤ w0.heap.size)
    (hrow : ∀ xs, w.ownsRow base e A.size v l.length xs → w'.ownsRow base e A.size v' (l.length + 1) (xs ++ cs) ∧ w.grownBy w' v.ownBlock ∧ (v'.ownBlock = v.ownBlock ∨ v'.ownBlock = some w.heap.size)) :
    Grow A ow base w' e v' (l ++ [x]) := by
  have h' := h.below hb
  obtain ⟨xs0, fps0, ho0, hl0, he0, hne0, hn0⟩ := h
  have ho : w.ownsRow base e A.size v l.length xs0 := ho0.kept (row := none) ⟨hb.os, hb.tape, hb.output, hb.size, fun k hk _ => hb.block k hk⟩ (by cases v.ownBlock <;> simp)
  obtain ⟨hr1, hr2, hr3⟩ := hrow xs0 ho
  have hvlt : ∀ g, v.ownBlock = some g → base ≤ g ∧ g < w0.heap.size := fun g hg => ho0.lt g hg
  have hold : ∀ b ∈ fps0.flatten, b < w0.heap.size := by
    intro b hb'
    obtain ⟨f, hf, hbf⟩ := List.mem_flatten.1 hb'
    obtain ⟨i, hi, rfl⟩ := List.getElem_of_mem hf
    obtain ⟨f', c', hf', hr', _⟩ := he0 i (l[i]'(by omega)) (List.getElem?_eq_getElem (by omega))
    rw [List.getElem?_eq_getElem hi] at hf'
    injection hf' with hf'
    exact A.lt hr' b (hf' ▸ hbf)
  have hfxg : ∀ b ∈ fx, some b ≠ v.ownBlock := by
    intro b hb' he
    have := hvlt b he.symm
    rcases hfx b hb' with h | h <;> omega
  have hxlt : ∀ b ∈ fx, b < w.heap.size := A.lt hx
  have hnew : ∀ b, b < w.heap.size → some b ≠ v.ownBlock → some b ≠ v'.ownBlock := by
    intro b hb' hne he
    rcases hr3 with h | h
    · exact hne (he.trans h)
    · rw [h] at he; injection he with he; omega
  have hkeep : ∀ b, b < w.heap.size → some b ≠ v.ownBlock → w'.heap[b]? = w.heap[b]? := fun b h1 h2 => hr2.block b h1 h2
  have hold' : ∀ b ∈ fps0.flatten, b < w.heap.size := fun b hb' => Nat.lt_of_lt_of_le (hold b hb') hb.size
  have hxl : xs0.length = l.length * A.size := ho0.1
  refine ⟨xs0 ++ cs, fps0 ++ [fx], by rw [List.length_append]; exact hr1, by simp [hl0], fun i y hy => ?_, fun b hb' => ?_, fun hown => ⟨?_, fun b hb' => ?_⟩⟩
  · rcases Nat.lt_or_ge i l.length with hi | hi
    · rw [List.getElem?_append_left hi] at hy
      obtain ⟨f, c, hf, hr, hc⟩ := he0 i y hy
      have hil : i < fps0.length := by omega
      refine ⟨f, c, by rw [List.getElem?_append_left hil]; exact hf, A.frame (A.frame hr fun b hbf => hb.block b (A.lt hr b hbf)) fun b hbf => ?_, fun j u hu => ?_⟩
      · have hm : b ∈ fps0.flatten := List.mem_flatten.2 ⟨f, List.mem_of_getElem? hf, hbf⟩
        exact hkeep b (hold' b hm) (hne0 b hm)
      · have := hc j u hu
        rw [List.getElem?_append_left (List.getElem?_eq_some_iff.1 this).1]
        exact this
    · have hi' : i = l.length := by
        have := (List.getElem?_eq_some_iff.1 hy).1
        simp at this
        omega
      subst hi'
      simp at hy
      subst hy
      refine ⟨fx, cs, by rw [← hl0]; simp, A.frame hx fun b hbf => hkeep b (hxlt b hbf) (hfxg b hbf), fun j u hu => ?_⟩
      rw [List.getElem?_append_right (by omega), hxl, Nat.add_sub_cancel_left]
      exact hu
  · rw [List.flatten_append, List.mem_append] at hb'
    rcases hb' with hb' | hb'
    · exact hnew b (hold' b hb') (hne0 b hb')
    · have hb'' : b ∈ fx := by simpa using hb'
      exact hnew b (hxlt b hb'') (hfxg b hb'')
  · rw [List.flatten_append, List.nodup_append]
    refine ⟨(hn0 hown).1, by simpa using (hox hown).1, fun p hp q hq he => ?_⟩
    have := hold p hp
    have := ((hox hown).2 q (by simpa using hq)).1
    omega
  · rw [List.flatten_append, List.mem_append] at hb'
    rcases hb' with hb' | hb'
    · have h1 := (hn0 hown).2 b hb'
      exact ⟨h1.1, (h1.2.frame (hb.block b h1.2.lt)).frame (hkeep b (hold' b hb') (hne0 b hb'))⟩
    · have hb'' : b ∈ fx := by simpa using hb'
      have h1 := (hox hown).2 b hb''
      exact ⟨by omega, h1.2.frame (hkeep b (hxlt b hb'') (hfxg b hb''))⟩
end

section
variable {α : Type} {A : Rp α} {ow : Bool} {P : Program} (w : World)
/-- 'out = append(out, x)': x lies in a row B of one element that the statement itself has made. -/
theorem run_grow {base : Nat} {w0 : World} {v : Value} {l : List α} {x : α} {cs : List Value} {fx : List Nat} (t ty e : TypeId) (i : TypeInfo) (z : Value) (bytes : Nat) (ht : P.underlying t = some (.slice e)) (hi : P.info? e = some i) (hz : i.zero = some z)
    (hsize : i.size = A.size) (hby : i.bytes = bytes) (hzs : z.cells.size = A.size) (hsz : 0 < A.size)
    (h : Grow A ow base w0 e v l) (hb : Below w0.heap.size w0 w) (hx : A.rep w cs x fx) (hfx : ∀ b ∈ fx, b < base ∨ w0.heap.size ≤ b) (hox : ow = true → fx.Nodup ∧ ∀ b ∈ fx, w0.heap.size ≤ b ∧ Free w b) (hbase : base ≤ w0.heap.size)
    (B c : Nat) (hB : ∀ j u, cs[j]? = some u → w.cell? ⟨B, j, none⟩ = some u) (h63 : l.length + 1 ≤ maxLen) (hbytes : (l.length + 1) * bytes ≤ 140737488355328) :
    ∃ v' w', (Builtin.append_ #[t, t] ty #[v, .slice (some ⟨B, 0, none⟩) 1 c]).run P w = .ok v' w' ∧ Grow A ow base w' e v' (l ++ [x]) ∧ Below base w w' ∧ ∀ b, w0.heap.size ≤ b → b < w.heap.size → w'.heap[b]? = w.heap[b]? := by
  have hvlt : ∀ g, v.ownBlock = some g → base ≤ g ∧ g < w0.heap.size := fun g hg => by obtain ⟨_, _, ho, _⟩ := h; exact ho.lt g hg
  obtain ⟨xs, fps, ho, _⟩ := h.below hb
  have hone : ∀ u ∈ cs, u.oneCell' = true := A.one hx
  have hadd : ∀ j, (⟨B, 0, none⟩ : Addr).add j = ⟨B, j, none⟩ := fun j => by
    unfold Addr.add
    by_cases hj : j = 0
    · subst hj; rfl
    · rw [if_neg hj]; simp
  obtain ⟨v', w', hrun, h2, h3, _, h5⟩ := run_append_own_at (P := P) w base t ty e i z A.size bytes ht hi hz hsize hby hzs hsz v l.length xs ho ⟨B, 0, none⟩ 1 c cs (by rw [A.len hx]; omega)
    (fun j u hu => by rw [hadd]; exact hB j u hu) hone h63 hbytes (Nat.le_trans hbase hb.size)
  refine ⟨v', w', hrun, h.step hb hx hfx hox hbase fun xs' ho' => ?_, ?_, fun b h1 h2 => h3.block b h2 fun e => by have := (hvlt b e.symm).2; omega⟩
  · have : xs' = xs := by
      have h1 := ho.2
      have h2 := ho'.2
      rcases h1 with ⟨e1, n1⟩ | ⟨g, cap, cur, e1, _, g1, _, _, _, t1⟩
      · rcases h2 with ⟨_, _⟩ | ⟨g', cap', cur', e2, _⟩
        · have e1 : xs = [] := List.eq_nil_of_length_eq_zero (by rw [ho.1, n1]; simp)
          have e2 : xs' = [] := List.eq_nil_of_length_eq_zero (by rw [ho'.1, n1]; simp)
          rw [e1, e2]
        · rw [e1] at e2; cases e2
      · rcases h2 with ⟨e2, _⟩ | ⟨g', cap', cur', e2, _, g2, _, _, _, t2⟩
        · rw [e1] at e2; cases e2
        · rw [e1] at e2
          injection e2 with e2
          injection e2 with e2
          injection e2 with e2
          subst e2
          rw [g1] at g2
          injection g2 with g2
          injection g2 with g2
          subst g2
          exact t2.symm.trans t1
    subst this
    exact ⟨h2, h3, h5⟩
  · exact ⟨h3.os, h3.tape, h3.output, h3.size, fun k hk => h3.block k (by have := hb.size; omega) (fun e => by have := (ho.lt k e.symm).1; omega)⟩

theorem wpList_grow {ops : Array Oper} {rest : List Oper} {o : Oper} {a : Act} {Q : Exit → Act → World → Prop} {base : Nat} {w0 : World} {v : Value} {l : List α} {x : α} {cs : List Value} {fx : List Nat} (hgd : o.guard = none) (s y : Operand) (t : TypeId)
    (ho : o.op = .call { callee := .builtin .append, args := #[s, y], argTypes := #[t, t] }) (e : TypeId) (i : TypeInfo) (z : Value) (bytes : Nat) (ht : P.underlying t = some (.slice e)) (hi : P.info? e = some i) (hz : i.zero = some z)
    (hsize : i.size = A.size) (hby : i.bytes = bytes) (hzs : z.cells.size = A.size) (hsz : 0 < A.size)
    (hs : a.eval s = v) (h : Grow A ow base w0 e v l) (hb : Below w0.heap.size w0 w) (hx : A.rep w cs x fx) (hfx : ∀ b ∈ fx, b < base ∨ w0.heap.size ≤ b) (hox : ow = true → fx.Nodup ∧ ∀ b ∈ fx, w0.heap.size ≤ b ∧ Free w b) (hbase : base ≤ w0.heap.size)
    (B c : Nat) (hy : a.eval y = .slice (some ⟨B, 0, none⟩) 1 c) (hB : ∀ j u, cs[j]? = some u → w.cell? ⟨B, j, none⟩ = some u) (h63 : l.length + 1 ≤ maxLen) (hbytes : (l.length + 1) * bytes ≤ 140737488355328)
    (hK : ∀ v' w', Grow A ow base w' e v' (l ++ [x]) → Below base w w' → (∀ b, w0.heap.size ≤ b → b < w.heap.size → w'.heap[b]? = w.heap[b]?) → wpList P ops Q rest (a.put o.dst v') w') : wpList P ops Q (o :: rest) a w := by
  refine wpList_plain hgd fun K hK' => ?_
  obtain ⟨v', w', hrun, h2, h3, h4⟩ := run_grow (P := P) w t o.type e i z bytes ht hi hz hsize hby hzs hsz h hb hx hfx hox hbase B c hB h63 hbytes
  unfold Oper.wp execOp
  simp only [ho, resolve, invoke, builtin, Sem.run_bind, Sem.run_pure, Result.andThen_ok, List.map_toArray, List.map_cons, List.map_nil, hs, hy, hrun]
  exact hK' _ _ (hK v' w' h2 h3 h4)
end
end Go.Proofs.Ytjkbecgenjhaaaa

/-
  Types of data; values of a walk on data: what the slots and the blocks of a call's own hold. No program here.
-/
namespace Go.Proofs.Ytjkbecgenjhaaaa.DW
open Go.RowKit

/-- A value that a type alone fixes: a function, a nil slice. -/
inductive Cst where
  | fn (f : FuncId)
  | nil
def Cst.val : Cst → Value
  | .fn f => .func (.func f) #[] #[]
  | .nil => .slice none 0 0
theorem Cst.one (k : Cst) : k.val.oneCell' = true := by cases k <;> rfl
inductive Ty where
  | int
  | bool
  | str
  | u8
  | cst (k : Cst)
  | prod (a b : Ty)
  | slice (a : Ty)
@[reducible] def Ty.den : Ty → Type
  | .int => Int
  | .bool => Bool
  | .str => ByteArray
  | .u8 => Int
  | .cst _ => Unit
  | .prod a b => a.den × b.den
  | .slice a => List a.den
def RpStr : Rp ByteArray where
  size := 1
  rep _ cs a fp := cs = [.string a] ∧ fp = [] ∧ a.size ≤ maxLen
  len h := by rw [h.1]; rfl
  lt h b hb := by rw [h.2.1] at hb; cases hb
  frame h _ := h
  one h v hv := by rw [h.1] at hv; simp at hv; subst hv; rfl
def RpU8 : Rp Int where
  size := 1
  rep _ cs a fp := cs = [.int .u8 a] ∧ fp = [] ∧ 0 ≤ a ∧ a ≤ 255
  len h := by rw [h.1]; rfl
  lt h b hb := by rw [h.2.1] at hb; cases hb
  frame h _ := h
  one h v hv := by rw [h.1] at hv; simp at hv; subst hv; rfl
def RpCst (f : Cst) : Rp Unit where
  size := 1
  rep _ cs _ fp := cs = [f.val] ∧ fp = []
  len h := by rw [h.1]; rfl
  lt h b hb := by rw [h.2] at hb; cases hb
  frame h _ := h
  one h v hv := by rw [h.1] at hv; simp at hv; subst hv; exact f.one
def Ty.rpp : (t : Ty) → { A : Rp t.den // 0 < A.size }
  | .int => ⟨Rp.int, Nat.one_pos⟩
  | .bool => ⟨Rp.bool, Nat.one_pos⟩
  | .str => ⟨RpStr, Nat.one_pos⟩
  | .u8 => ⟨RpU8, Nat.one_pos⟩
  | .cst f => ⟨RpCst f, Nat.one_pos⟩
  | .prod a b => ⟨Rp.prod a.rpp.1 b.rpp.1, Nat.add_pos_left a.rpp.2 _⟩
  | .slice a => ⟨Rp.slice a.rpp.1 a.rpp.2, Nat.one_pos⟩
def Ty.rp (t : Ty) : Rp t.den := t.rpp.1
theorem Ty.pos (t : Ty) : 0 < t.rp.size := t.rpp.2
def Ty.size : Ty → Nat
  | .prod a b => a.size + b.size
  | _ => 1
theorem Ty.rp_size (t : Ty) : t.rp.size = t.size := by
  induction t with
  | prod a b iha ihb => show a.rp.size + b.rp.size = _; rw [iha, ihb]; rfl
  | _ => rfl
def Ty.isAgg : Ty → Bool
  | .prod _ _ => true
  | _ => false
/-- No slices in it. -/
def Ty.flat : Ty → Bool
  | .prod a b => a.flat && b.flat
  | .slice _ => false
  | _ => true
def Ty.zero : (t : Ty) → t.den
  | .int => (0 : Int)
  | .bool => false
  | .str => ByteArray.empty
  | .u8 => (0 : Int)
  | .cst _ => ()
  | .prod a b => (a.zero, b.zero)
  | .slice _ => []
abbrev Dat := (t : Ty) × t.den
abbrev Lst := (t : Ty) × List t.den

inductive AV where
  | junk
  | sc (v : Value)
  | sl (t : Ty) (l : List t.den)
  | row (k ver : Nat)
  | ptr (k off : Nat)
  | elm (k ver i off : Nat)
  | ref (t : Ty) (x : t.den) (off : Nat)
  | agg (cs : List AV)
  | tup (vs : List AV)
  | nb (p q : Prop)
inductive Blk where
  | box (cs : List AV)
  | row (e : TypeId) (t : Ty) (ver : Nat) (ow : Bool) (l : List t.den)
  | odat (t : Ty) (l : List t.den)
  | froz (t : Ty) (ver : Nat) (l : List t.den)
  | dead
abbrev Tm := List (Nat × AV)
abbrev Mm := List (Nat × Blk)
structure St where
  tmps : Tm
  mem : Mm

def look {α : Type} : List (Nat × α) → Nat → Option α
  | [], _ => none
  | (k, v) :: l, d => if d = k then some v else look l d
theorem look_nil {α : Type} (d : Nat) : look ([] : List (Nat × α)) d = none := (rfl)
theorem look_cons {α : Type} (k : Nat) (v : α) (l : List (Nat × α)) (d : Nat) : look ((k, v) :: l) d = if d = k then some v else look l d := (rfl)
theorem look_self {α : Type} (k : Nat) (v : α) (l : List (Nat × α)) : look ((k, v) :: l) k = some v := by simp [look]
theorem look_ne {α : Type} {k d : Nat} (v : α) (l : List (Nat × α)) (h : d ≠ k) : look ((k, v) :: l) d = look l d := by simp [look, h]
theorem look_app {α : Type} (l m : List (Nat × α)) (d : Nat) : look (l ++ m) d = (look l d).or (look m d) := by
  induction l with
  | nil => simp [look]
  | cons x l ih =>
    obtain ⟨k, v⟩ := x
    simp only [List.cons_append, look]
    split
    · simp
    · exact ih

def All2 {α β : Type} (R : α → β → Prop) : List α → List β → Prop
  | [], [] => True
  | a :: l, b :: m => R a b ∧ All2 R l m
  | _, _ => False
theorem All2.len {α β : Type} {R : α → β → Prop} : ∀ {l : List α} {m : List β}, All2 R l m → l.length = m.length
  | [], [], _ => rfl
  | _ :: _, _ :: _, h => by simp [All2.len h.2]
  | [], _ :: _, h => h.elim
  | _ :: _, [], h => h.elim
theorem All2.mono {α β : Type} {R R' : α → β → Prop} : ∀ {l : List α} {m : List β}, (∀ a b, a ∈ l → R a b → R' a b) → All2 R l m → All2 R' l m
  | [], [], _, _ => trivial
  | a :: l, b :: m, h, ⟨h1, h2⟩ => ⟨h a b List.mem_cons_self h1, All2.mono (fun a b ha => h a b (List.mem_cons_of_mem _ ha)) h2⟩
  | [], _ :: _, _, h => h.elim
  | _ :: _, [], _, h => h.elim
theorem All2.get {α β : Type} {R : α → β → Prop} : ∀ {l : List α} {m : List β} {i : Nat} {a : α}, All2 R l m → l[i]? = some a → ∃ b, m[i]? = some b ∧ R a b
  | [], _, i, a, _, h => by simp at h
  | _ :: _, _ :: _, 0, a, ⟨h1, _⟩, h => by simp at h; subst h; exact ⟨_, rfl, h1⟩
  | _ :: _, _ :: _, i + 1, a, ⟨_, h2⟩, h => by simp at h; simpa using All2.get h2 h
  | _ :: _, [], _, _, h, _ => h.elim
theorem All2.app {α β : Type} {R : α → β → Prop} : ∀ {l l' : List α} {m m' : List β}, All2 R l m → All2 R l' m' → All2 R (l ++ l') (m ++ m')
  | [], _, [], _, _, h => h
  | _ :: _, _, _ :: _, _, ⟨h1, h2⟩, h => ⟨h1, All2.app h2 h⟩
  | [], _, _ :: _, _, h, _ => h.elim
  | _ :: _, _, [], _, h, _ => h.elim
theorem All2.take {α β : Type} {R : α → β → Prop} : ∀ {l : List α} {m : List β} (n : Nat), All2 R l m → All2 R (l.take n) (m.take n)
  | _, _, 0, _ => by simp [All2]
  | [], [], _ + 1, _ => by simp [All2]
  | _ :: _, _ :: _, n + 1, ⟨h1, h2⟩ => ⟨h1, All2.take n h2⟩
  | [], _ :: _, _, h => h.elim
  | _ :: _, [], _, h => h.elim
theorem All2.drop {α β : Type} {R : α → β → Prop} : ∀ {l : List α} {m : List β} (n : Nat), All2 R l m → All2 R (l.drop n) (m.drop n)
  | _, _, 0, h => h
  | [], [], _ + 1, _ => trivial
  | _ :: _, _ :: _, n + 1, ⟨_, h2⟩ => All2.drop n h2
  | [], _ :: _, _, h => h.elim
  | _ :: _, [], _, h => h.elim
theorem All2.set {α β : Type} {R : α → β → Prop} : ∀ {l : List α} {m : List β} (i : Nat) {a : α} {b : β}, All2 R l m → R a b → All2 R (l.set i a) (m.set i b)
  | [], [], _, _, _, _, _ => trivial
  | _ :: _, _ :: _, 0, _, _, ⟨_, h2⟩, h => ⟨h, h2⟩
  | _ :: _, _ :: _, i + 1, _, _, ⟨h1, h2⟩, h => ⟨h1, All2.set i h2 h⟩
  | [], _ :: _, _, _, _, h, _ => h.elim
  | _ :: _, [], _, _, _, h, _ => h.elim

/-- An integer is one of its kind. -/
def okv : Value → Prop
  | .int .i64 n => I64 n
  | .int .u8 n => 0 ≤ n ∧ n ≤ 255
  | .string s => s.size ≤ maxLen
  | _ => True

theorem Cst.ok (k : Cst) : okv k.val := by cases k <;> trivial
/-- The fixed surroundings of a walk: the first block of the call's own, the world at its begin, the blocks of its arguments. -/
structure Cx where
  base : Nat
  w0 : World
  S : Nat → Prop
  n : Nat
/-- Where the walk's blocks lie. -/
structure Asg where
  β : Nat → Nat
  hd : Nat → Value
  fp : Nat → List Nat

/-- The block that entry k may write. -/
def Blk.mut (B : Blk) (Γ : Asg) (k b : Nat) : Prop :=
  match B with
  | .box _ => b = Γ.β k
  | .row .. => (Γ.hd k).ownBlock = some b
  | _ => False
def Mut (M : Mm) (Γ : Asg) (b : Nat) : Prop := ∃ k B, look M k = some B ∧ B.mut Γ k b
/-- A block that nobody writes, of the arguments' or of the call's own. -/
def Gd (c : Cx) (M : Mm) (Γ : Asg) (b : Nat) : Prop := (c.S b ∨ c.base ≤ b) ∧ ¬ Mut M Γ b
/-- The blocks that entry k alone refers to. -/
def Blk.ofp (B : Blk) (Γ : Asg) (k : Nat) : List Nat :=
  match B with
  | .row _ _ _ true _ => Γ.fp k
  | .odat .. => Γ.fp k
  | _ => []
def BH (c : Cx) (M : Mm) (Γ : Asg) (w : World) (B : Blk) (k ver : Nat) (u : Value) : Prop :=
  match B with
  | .row _ _ v _ _ => ver ≤ v ∧ (v = ver → u = Γ.hd k)
  | .odat _ _ => ver = 0 → u = Γ.hd k
  | .froz t v l => v = ver → ∃ fp, (Rp.slice t.rp t.pos).rep w [u] l fp ∧ ∀ b ∈ fp, Gd c M Γ b
  | _ => True
def CRep (c : Cx) (M : Mm) (Γ : Asg) (w : World) : AV → Value → Prop
  | .sc v, u => u = v ∧ v.oneCell' = true ∧ okv v
  | .sl t l, u => ∃ fp, (Rp.slice t.rp t.pos).rep w [u] l fp ∧ ∀ b ∈ fp, Gd c M Γ b
  | .row k ver, u => u.oneCell' = true ∧ ∃ B, look M k = some B ∧ BH c M Γ w B k ver u
  | .ptr k off, u => u = .pointer (some ⟨Γ.β k, off, none⟩) ∧ ∃ cs, look M k = some (.box cs)
  | .elm k ver i off, u => u.oneCell' = true ∧ ∃ B, look M k = some B ∧ ∀ e t v o l, B = .row e t v o l → ver ≤ v ∧ (v = ver → ∃ g n cap, Γ.hd k = .slice (some ⟨g, 0, none⟩) n cap ∧ u = .pointer (some ⟨g, i * t.rp.size + off, none⟩))
  | .nb p q, u => ∃ b : Bool, u = .bool b ∧ (b = true → p) ∧ (b = false → q)
  | .ref t x off, u => ∃ b o cs fp, u = .pointer (some ⟨b, o + off, none⟩) ∧ t.rp.rep w cs x fp ∧ (∀ j v, cs[j]? = some v → w.cell? ⟨b, o + j, none⟩ = some v) ∧ Gd c M Γ b ∧ (∀ b' ∈ fp, Gd c M Γ b') ∧ b < w.heap.size
  | _, _ => False
def ARep (c : Cx) (M : Mm) (Γ : Asg) (w : World) : AV → Value → Prop
  | .agg cs, u => ∃ us, u = .agg us.toArray ∧ All2 (CRep c M Γ w) cs us
  | v, u => CRep c M Γ w v u
def VRep (c : Cx) (M : Mm) (Γ : Asg) (w : World) : AV → Value → Prop
  | .junk, _ => True
  | .tup vs, u => ∃ us, u = .tuple us.toArray ∧ All2 (ARep c M Γ w) vs us
  | v, u => ARep c M Γ w v u
theorem CRep.one {c : Cx} {M : Mm} {Γ : Asg} {w : World} {v : AV} {u : Value} (h : CRep c M Γ w v u) : u.oneCell' = true := by
  cases v with
  | sc v => obtain ⟨rfl, h, _⟩ := h; exact h
  | sl t l => obtain ⟨fp, h, _⟩ := h; exact (Rp.slice t.rp t.pos).one h u (by simp)
  | row k ver => exact h.1
  | ptr k off => obtain ⟨rfl, _⟩ := h; rfl
  | elm k ver i off => exact h.1
  | ref t x off => obtain ⟨b, o, cs, fp, rfl, _⟩ := h; rfl
  | nb p q => obtain ⟨b, rfl, _⟩ := h; rfl
  | _ => exact h.elim

/-- A slice of the call's own that may grow: its elements, their blocks. -/
def GrowF {α : Type} (A : Rp α) (base : Nat) (w : World) (e : TypeId) (v : Value) (l : List α) (fps : List (List Nat)) : Prop :=
  ∃ xs : List Value, w.ownsRow base e A.size v l.length xs ∧ fps.length = l.length ∧
    (∀ i x, l[i]? = some x → ∃ f cs, fps[i]? = some f ∧ A.rep w cs x f ∧ ∀ j d, cs[j]? = some d → xs[i * A.size + j]? = some d)
def BRep (c : Cx) (M : Mm) (Γ : Asg) (w : World) (B : Blk) (k : Nat) : Prop :=
  match B with
  | .box cs => c.base ≤ Γ.β k ∧ ∃ us e, w.heap[Γ.β k]? = some (.cells us e (0, 0)) ∧ All2 (CRep c M Γ w) cs us.toList
  | .row e t _ o l => ∃ fps, GrowF t.rp c.base w e (Γ.hd k) l fps ∧ Γ.fp k = fps.flatten ∧ (∀ b ∈ Γ.fp k, Gd c M Γ b) ∧ (o = true → OwnFp c.base w (Γ.fp k))
  | .odat t l => (Rp.slice t.rp t.pos).rep w [Γ.hd k] l (Γ.fp k) ∧ (∀ b ∈ Γ.fp k, Gd c M Γ b) ∧ OwnFp c.base w (Γ.fp k)
  | _ => True

structure Sim (c : Cx) (σ : St) (Γ : Asg) (a : Act) (w : World) : Prop where
  tm : ∀ d v, look σ.tmps d = some v → ∃ u, a.tmps[d]? = some u ∧ VRep c σ.mem Γ w v u
  mm : ∀ k B, look σ.mem k = some B → BRep c σ.mem Γ w B k
  inj : ∀ k k' B B' b, look σ.mem k = some B → look σ.mem k' = some B' → B.mut Γ k b → B'.mut Γ k' b → k = k'
  disj : ∀ k k' B B' b, look σ.mem k = some B → look σ.mem k' = some B' → k ≠ k' → b ∈ B.ofp Γ k → b ∉ B'.ofp Γ k'
  below : Below c.base c.w0 w
  hb : c.base ≤ w.heap.size
  defs : a.defers = []
  sz : a.tmps.size = c.n
end Go.Proofs.Ytjkbecgenjhaaaa.DW

/-
  What a change of one block leaves of the rest. No program here.
-/
namespace Go.Proofs.Ytjkbecgenjhaaaa.DW
open Go.RowKit

theorem ownsRow_frame {w w' : World} {base : Nat} {e : TypeId} {size n : Nat} {v : Value} {xs : List Value} (h : w.ownsRow base e size v n xs) (hf : ∀ b, v.ownBlock = some b → w'.heap[b]? = w.heap[b]?) : w'.ownsRow base e size v n xs := by
  refine ⟨h.1, ?_⟩
  rcases h.2 with hn | ⟨g, cap, cur, rfl, hb, hg, rest⟩
  · exact .inl hn
  · exact .inr ⟨g, cap, cur, rfl, hb, (hf g rfl).trans hg, rest⟩
theorem GrowF.frame {α : Type} {A : Rp α} {base : Nat} {w w' : World} {e : TypeId} {v : Value} {l : List α} {fps : List (List Nat)} (h : GrowF A base w e v l fps)
    (h1 : ∀ b, v.ownBlock = some b → w'.heap[b]? = w.heap[b]?) (h2 : ∀ b ∈ fps.flatten, w'.heap[b]? = w.heap[b]?) : GrowF A base w' e v l fps := by
  obtain ⟨xs, ho, hl, he⟩ := h
  refine ⟨xs, ownsRow_frame ho h1, hl, fun i x hx => ?_⟩
  obtain ⟨f, cs, hf, hr, hc⟩ := he i x hx
  exact ⟨f, cs, hf, A.frame hr fun b hb => h2 b (List.mem_flatten.2 ⟨f, List.mem_of_getElem? hf, hb⟩), hc⟩
theorem GrowF.lt {α : Type} {A : Rp α} {base : Nat} {w : World} {e : TypeId} {v : Value} {l : List α} {fps : List (List Nat)} (h : GrowF A base w e v l fps) : ∀ b ∈ fps.flatten, b < w.heap.size := by
  obtain ⟨xs, ho, hl, he⟩ := h
  intro b hb
  obtain ⟨f, hf, hbf⟩ := List.mem_flatten.1 hb
  obtain ⟨i, hi, rfl⟩ := List.getElem_of_mem hf
  obtain ⟨f', c', hf', hr', _⟩ := he i (l[i]'(by omega)) (List.getElem?_eq_getElem (by omega))
  rw [List.getElem?_eq_getElem hi] at hf'
  injection hf' with hf'
  exact A.lt hr' b (hf' ▸ hbf)
theorem GrowF.own {α : Type} {A : Rp α} {base : Nat} {w : World} {e : TypeId} {v : Value} {l : List α} {fps : List (List Nat)} (h : GrowF A base w e v l fps) {b : Nat} (hb : v.ownBlock = some b) : base ≤ b ∧ b < w.heap.size := by
  obtain ⟨xs, ho, _⟩ := h; exact ho.lt b hb
theorem ownFp_nil (base : Nat) (w : World) : OwnFp base w [] := ⟨List.nodup_nil, fun b hb => by cases hb⟩
theorem ownFp_frame {base : Nat} {w w' : World} {fp : List Nat} (h : OwnFp base w fp) (hf : ∀ b ∈ fp, w'.heap[b]? = w.heap[b]?) : OwnFp base w' fp :=
  ⟨h.1, fun b hb => ⟨(h.2 b hb).1, (h.2 b hb).2.frame (hf b hb)⟩⟩

section
variable {c : Cx} {σ : St} {Γ : Asg} {a : Act} {w : World}
theorem Sim.mut_lt (h : Sim c σ Γ a w) {k : Nat} {B : Blk} (hk : look σ.mem k = some B) {b : Nat} (hb : B.mut Γ k b) : c.base ≤ b ∧ b < w.heap.size := by
  have hB := h.mm k B hk
  cases B with
  | box cs => obtain ⟨h1, us, e, h2, _⟩ := hB; obtain rfl : b = Γ.β k := hb; exact ⟨h1, lt_of_heap h2⟩
  | row e t v o l => obtain ⟨fps, hg, _⟩ := hB; exact hg.own hb
  | _ => exact hb.elim
theorem Sim.ofp_lt (h : Sim c σ Γ a w) {k : Nat} {B : Blk} (hk : look σ.mem k = some B) {b : Nat} (hb : b ∈ B.ofp Γ k) : b < w.heap.size := by
  have hB := h.mm k B hk
  cases B with
  | row e t v o l =>
    obtain ⟨fps, hg, hf, _⟩ := hB
    cases o with
    | false => simp [Blk.ofp] at hb
    | true => exact hg.lt b (hf ▸ hb)
  | odat t l => exact (Rp.slice t.rp t.pos).lt hB.1 b hb
  | _ => simp [Blk.ofp] at hb

/-- Entry k turns into B', and its block, if it has one; the rest stays. -/
structure Chg (c : Cx) (σ : St) (Γ : Asg) (w : World) (k : Nat) (B' : Blk) (Γ' : Asg) (w' : World) : Prop where
  hΓ : ∀ j, j ≠ k → Γ'.β j = Γ.β j ∧ Γ'.hd j = Γ.hd j ∧ Γ'.fp j = Γ.fp j
  os : w'.os = w.os
  tape : w'.tape = w.tape
  output : w'.output = w.output
  size : w.heap.size ≤ w'.heap.size
  heap : ∀ b, b < w.heap.size → (∀ B, look σ.mem k = some B → ¬ B.mut Γ k b) → w'.heap[b]? = w.heap[b]?
  hm : ∀ b, B'.mut Γ' k b → w.heap.size ≤ b ∨ ∃ B, look σ.mem k = some B ∧ B.mut Γ k b
  ho : ∀ b ∈ B'.ofp Γ' k, ∀ j B, j ≠ k → look σ.mem j = some B → b ∉ B.ofp Γ j

section
variable {k : Nat} {B' : Blk} {Γ' : Asg} {w' : World}
theorem Chg.mut (ch : Chg c σ Γ w k B' Γ' w') {b : Nat} (hb : Mut ((k, B') :: σ.mem) Γ' b) : Mut σ.mem Γ b ∨ w.heap.size ≤ b := by
  obtain ⟨j, B, hj, hm⟩ := hb
  by_cases hjk : j = k
  · subst hjk
    rw [look_self] at hj
    injection hj with hj
    subst hj
    rcases ch.hm b hm with h | ⟨B, h1, h2⟩
    · exact .inr h
    · exact .inl ⟨j, B, h1, h2⟩
  · rw [look_ne _ _ hjk] at hj
    obtain ⟨e1, e2, _⟩ := ch.hΓ j hjk
    refine .inl ⟨j, B, hj, ?_⟩
    cases B <;> simp only [Blk.mut, e1, e2] at hm ⊢ <;> exact hm
theorem Chg.gd (ch : Chg c σ Γ w k B' Γ' w') {b : Nat} (hb : Gd c σ.mem Γ b) (hl : b < w.heap.size) : Gd c ((k, B') :: σ.mem) Γ' b :=
  ⟨hb.1, fun hm => (ch.mut hm).elim hb.2 (by omega)⟩
theorem Chg.same (ch : Chg c σ Γ w k B' Γ' w') {b : Nat} (hb : Gd c σ.mem Γ b) (hl : b < w.heap.size) : w'.heap[b]? = w.heap[b]? :=
  ch.heap b hl fun B hB hm => hb.2 ⟨k, B, hB, hm⟩
theorem Chg.rep (ch : Chg c σ Γ w k B' Γ' w') {α : Type} {A : Rp α} {cs : List Value} {x : α} {fp : List Nat} (hr : A.rep w cs x fp) (hg : ∀ b ∈ fp, Gd c σ.mem Γ b) :
    A.rep w' cs x fp ∧ ∀ b ∈ fp, Gd c ((k, B') :: σ.mem) Γ' b :=
  ⟨A.frame hr fun b hb => ch.same (hg b hb) (A.lt hr b hb), fun b hb => ch.gd (hg b hb) (A.lt hr b hb)⟩
theorem Chg.crep (ch : Chg c σ Γ w k B' Γ' w')
    (hrow : ∀ ver u, CRep c σ.mem Γ w (.row k ver) u → BH c ((k, B') :: σ.mem) Γ' w' B' k ver u)
    (helm : ∀ ver i off u, CRep c σ.mem Γ w (.elm k ver i off) u → CRep c ((k, B') :: σ.mem) Γ' w' (.elm k ver i off) u)
    (hptr : (∃ cs, look σ.mem k = some (.box cs)) → (∃ cs, B' = .box cs) ∧ Γ'.β k = Γ.β k) {v : AV} {u : Value} (h : CRep c σ.mem Γ w v u) : CRep c ((k, B') :: σ.mem) Γ' w' v u := by
  cases v with
  | sc v => exact h
  | sl t l => obtain ⟨fp, hr, hg⟩ := h; obtain ⟨h1, h2⟩ := ch.rep hr hg; exact ⟨fp, h1, h2⟩
  | row j ver =>
    by_cases hj : j = k
    · subst hj; exact ⟨h.1, B', look_self .., hrow ver u h⟩
    · obtain ⟨h1, B, hB, hh⟩ := h
      refine ⟨h1, B, by rw [look_ne _ _ hj]; exact hB, ?_⟩
      obtain ⟨_, e2, _⟩ := ch.hΓ j hj
      cases B with
      | row e t v o l => simp only [BH, e2] at hh ⊢; exact hh
      | odat t l => simp only [BH, e2] at hh ⊢; exact hh
      | froz t v l =>
        intro e
        obtain ⟨fp, hr, hg⟩ := hh e
        obtain ⟨h1, h2⟩ := ch.rep hr hg
        exact ⟨fp, h1, h2⟩
      | _ => trivial
  | ptr j off =>
    obtain ⟨rfl, cs, hc⟩ := h
    by_cases hj : j = k
    · subst hj
      obtain ⟨⟨cs', rfl⟩, e⟩ := hptr ⟨cs, hc⟩
      exact ⟨by rw [e], cs', look_self ..⟩
    · exact ⟨by rw [(ch.hΓ j hj).1], cs, by rw [look_ne _ _ hj]; exact hc⟩
  | elm j ver i off =>
    by_cases hj : j = k
    · subst hj; exact helm ver i off u h
    · obtain ⟨h1, B, hB, hh⟩ := h
      refine ⟨h1, B, by rw [look_ne _ _ hj]; exact hB, ?_⟩
      rw [(ch.hΓ j hj).2.1]
      exact hh
  | ref t x off =>
    obtain ⟨b, o, cs, fp, rfl, hr, hc, hgb, hg, hl⟩ := h
    obtain ⟨h1, h2⟩ := ch.rep hr hg
    exact ⟨b, o, cs, fp, rfl, h1, fun j v hv => (cell_frame (ch.same hgb hl)).trans (hc j v hv), ch.gd hgb hl, h2, Nat.lt_of_lt_of_le hl ch.size⟩
  | _ => exact h
theorem arep_mono {M M' : Mm} {Γ Γ' : Asg} {w w' : World} (hc : ∀ v u, CRep c M Γ w v u → CRep c M' Γ' w' v u) {v : AV} {u : Value} (h : ARep c M Γ w v u) : ARep c M' Γ' w' v u := by
  cases v with
  | agg cs => obtain ⟨us, rfl, h⟩ := h; exact ⟨us, rfl, h.mono fun v u _ => hc v u⟩
  | _ => simp only [ARep] at h ⊢; exact hc _ _ h
theorem vrep_mono {M M' : Mm} {Γ Γ' : Asg} {w w' : World} (hc : ∀ v u, CRep c M Γ w v u → CRep c M' Γ' w' v u) {v : AV} {u : Value} (h : VRep c M Γ w v u) : VRep c M' Γ' w' v u := by
  cases v with
  | junk => trivial
  | tup vs => obtain ⟨us, rfl, h⟩ := h; exact ⟨us, rfl, h.mono fun v u _ => arep_mono hc⟩
  | _ => simp only [VRep] at h ⊢; exact arep_mono hc h
theorem Sim.chg (h : Sim c σ Γ a w) (ch : Chg c σ Γ w k B' Γ' w')
    (hrow : ∀ ver u, CRep c σ.mem Γ w (.row k ver) u → BH c ((k, B') :: σ.mem) Γ' w' B' k ver u)
    (helm : ∀ ver i off u, CRep c σ.mem Γ w (.elm k ver i off) u → CRep c ((k, B') :: σ.mem) Γ' w' (.elm k ver i off) u)
    (hptr : (∃ cs, look σ.mem k = some (.box cs)) → (∃ cs, B' = .box cs) ∧ Γ'.β k = Γ.β k)
    (hB : (∀ v u, CRep c σ.mem Γ w v u → CRep c ((k, B') :: σ.mem) Γ' w' v u) → BRep c ((k, B') :: σ.mem) Γ' w' B' k) : Sim c ⟨σ.tmps, (k, B') :: σ.mem⟩ Γ' a w' := by
  have hcr : ∀ v u, CRep c σ.mem Γ w v u → CRep c ((k, B') :: σ.mem) Γ' w' v u := fun v u => ch.crep hrow helm hptr
  have hmutj : ∀ j B b, j ≠ k → look σ.mem j = some B → (B.mut Γ' j b ↔ B.mut Γ j b) := by
    intro j B b hj _
    obtain ⟨e1, e2, _⟩ := ch.hΓ j hj
    cases B <;> simp only [Blk.mut, e1, e2]
  have hofp : ∀ (j : Nat) (B : Blk), j ≠ k → B.ofp Γ' j = B.ofp Γ j := by
    intro j B hj
    obtain ⟨_, _, e3⟩ := ch.hΓ j hj
    cases B with
    | row e t v o l => cases o <;> simp only [Blk.ofp, e3]
    | _ => simp only [Blk.ofp, e3]
  refine ⟨fun d v hd => ?_, fun j B hj => ?_, fun j j' B C b hj hj' hb hb' => ?_, fun j j' B C b hj hj' hne hb => ?_, ?_, Nat.le_trans h.hb ch.size, h.defs, h.sz⟩
  · obtain ⟨u, h1, h2⟩ := h.tm d v hd
    exact ⟨u, h1, vrep_mono hcr h2⟩
  · by_cases hjk : j = k
    · subst hjk
      rw [look_self] at hj
      injection hj with hj
      subst hj
      exact hB hcr
    · rw [look_ne _ _ hjk] at hj
      have hold := h.mm j B hj
      obtain ⟨e1, e2, e3⟩ := ch.hΓ j hjk
      have hblk : ∀ b, B.mut Γ j b → w'.heap[b]? = w.heap[b]? := fun b hb =>
        ch.heap b (h.mut_lt hj hb).2 fun C hC hm => hjk (h.inj j k B C b hj hC hb hm)
      cases B with
      | box cs =>
        obtain ⟨h1, us, e, h2, h3⟩ := hold
        exact ⟨by rw [e1]; exact h1, us, e, by rw [e1, hblk _ rfl]; exact h2, h3.mono fun v u _ => hcr v u⟩
      | row e t v o l =>
        obtain ⟨fps, hg, hf, hgd, hon⟩ := hold
        have hs : ∀ b ∈ Γ.fp j, w'.heap[b]? = w.heap[b]? := fun b hb => ch.same (hgd b hb) (hg.lt b (hf ▸ hb))
        exact ⟨fps, by rw [e2]; exact hg.frame (fun b hb => hblk b hb) (fun b hb => hs b (hf ▸ hb)), by rw [e3]; exact hf, fun b hb => ch.gd (hgd b (e3 ▸ hb)) (hg.lt b (hf ▸ e3 ▸ hb)), fun ho => by rw [e3]; exact ownFp_frame (hon ho) hs⟩
      | odat t l =>
        obtain ⟨hr, hgd, hon⟩ := hold
        obtain ⟨h1, h2⟩ := ch.rep hr hgd
        exact ⟨by rw [e2, e3]; exact h1, by rw [e3]; exact h2, by rw [e3]; exact ownFp_frame hon fun b hb => ch.same (hgd b hb) ((Rp.slice t.rp t.pos).lt hr b hb)⟩
      | _ => trivial
  · by_cases h1 : j = k <;> by_cases h2 : j' = k
    · rw [h1, h2]
    · subst h1
      rw [look_self] at hj; injection hj with hj; subst hj
      rw [look_ne _ _ h2] at hj'
      rw [hmutj j' C b h2 hj'] at hb'
      rcases ch.hm b hb with hlt | ⟨B, hB1, hB2⟩
      · have := (h.mut_lt hj' hb').2; omega
      · exact h.inj _ _ _ _ b hB1 hj' hB2 hb'
    · subst h2
      rw [look_self] at hj'; injection hj' with hj'; subst hj'
      rw [look_ne _ _ h1] at hj
      rw [hmutj j B b h1 hj] at hb
      rcases ch.hm b hb' with hlt | ⟨B2, hB1, hB2⟩
      · have := (h.mut_lt hj hb).2; omega
      · exact h.inj _ _ _ _ b hj hB1 hb hB2
    · rw [look_ne _ _ h1] at hj; rw [look_ne _ _ h2] at hj'
      rw [hmutj j B b h1 hj] at hb; rw [hmutj j' C b h2 hj'] at hb'
      exact h.inj _ _ _ _ b hj hj' hb hb'
  · by_cases h1 : j = k
    · subst h1
      rw [look_self] at hj; injection hj with hj; subst hj
      rw [look_ne _ _ (Ne.symm hne)] at hj'
      rw [hofp j' C (Ne.symm hne)]
      exact ch.ho b hb j' C (Ne.symm hne) hj'
    · rw [look_ne _ _ h1] at hj
      rw [hofp j B h1] at hb
      by_cases h2 : j' = k
      · subst h2
        rw [look_self] at hj'; injection hj' with hj'; subst hj'
        intro hb'
        exact ch.ho b hb' j B h1 hj hb
      · rw [look_ne _ _ h2] at hj'
        rw [hofp j' C h2]
        exact h.disj j j' B C b hj hj' hne hb
  · exact h.below.trans ⟨ch.os, ch.tape, ch.output, ch.size, fun b hb => ch.heap b (Nat.lt_of_lt_of_le hb h.hb) fun B hB hm => by have := (h.mut_lt hB hm).1; omega⟩
end

/-- The world grows; of what was there nothing turns. -/
theorem crep_frame {M : Mm} {w' : World} (hb : Below w.heap.size w w') {v : AV} {u : Value} (h : CRep c M Γ w v u) : CRep c M Γ w' v u := by
  cases v with
  | sl t l => obtain ⟨fp, hr, hg⟩ := h; exact ⟨fp, (Rp.slice t.rp t.pos).frame hr fun b hbb => hb.block b ((Rp.slice t.rp t.pos).lt hr b hbb), hg⟩
  | row k ver =>
    obtain ⟨h1, B, hB, hh⟩ := h
    refine ⟨h1, B, hB, ?_⟩
    cases B with
    | froz t v l => intro e; obtain ⟨fp, hr, hg⟩ := hh e; exact ⟨fp, (Rp.slice t.rp t.pos).frame hr fun b hbb => hb.block b ((Rp.slice t.rp t.pos).lt hr b hbb), hg⟩
    | _ => exact hh
  | ref t x off =>
    obtain ⟨b, o, cs, fp, rfl, hr, hc, hgb, hg, hl⟩ := h
    exact ⟨b, o, cs, fp, rfl, t.rp.frame hr fun b' hb' => hb.block b' (t.rp.lt hr b' hb'), fun j v hv => (cell_frame (hb.block b hl)).trans (hc j v hv), hgb, hg, Nat.lt_of_lt_of_le hl hb.size⟩
  | _ => exact h
theorem Sim.frame (h : Sim c σ Γ a w) {w' : World} (hb : Below w.heap.size w w') : Sim c σ Γ a w' := by
  have hcr : ∀ v u, CRep c σ.mem Γ w v u → CRep c σ.mem Γ w' v u := fun v u => crep_frame hb
  refine ⟨fun d v hd => ?_, fun j B hj => ?_, h.inj, h.disj, h.below.trans (hb.mono h.hb), Nat.le_trans h.hb hb.size, h.defs, h.sz⟩
  · obtain ⟨u, h1, h2⟩ := h.tm d v hd
    exact ⟨u, h1, vrep_mono hcr h2⟩
  · have hold := h.mm j B hj
    have hblk : ∀ b, B.mut Γ j b → w'.heap[b]? = w.heap[b]? := fun b hm => hb.block b (h.mut_lt hj hm).2
    cases B with
    | box cs =>
      obtain ⟨h1, us, e, h2, h3⟩ := hold
      exact ⟨h1, us, e, by rw [hblk _ rfl]; exact h2, h3.mono fun v u _ => hcr v u⟩
    | row e t v o l =>
      obtain ⟨fps, hg, hf, hgd, hon⟩ := hold
      have hs : ∀ b ∈ Γ.fp j, w'.heap[b]? = w.heap[b]? := fun b hbb => hb.block b (hg.lt b (hf ▸ hbb))
      exact ⟨fps, hg.frame (fun b hbb => hblk b hbb) (fun b hbb => hs b (hf ▸ hbb)), hf, hgd, fun ho => ownFp_frame (hon ho) hs⟩
    | odat t l =>
      obtain ⟨hr, hgd, hon⟩ := hold
      have hs : ∀ b ∈ Γ.fp j, w'.heap[b]? = w.heap[b]? := fun b hbb => hb.block b ((Rp.slice t.rp t.pos).lt hr b hbb)
      exact ⟨(Rp.slice t.rp t.pos).frame hr hs, hgd, ownFp_frame hon hs⟩
    | _ => trivial
def St.put (σ : St) (d : Option Nat) (v : AV) : St :=
  match d with
  | some d => ⟨(d, v) :: σ.tmps, σ.mem⟩
  | none => σ
theorem Sim.put (h : Sim c σ Γ a w) {d : Option Nat} {v : AV} {u : Value} (hv : VRep c σ.mem Γ w v u) (hd : ∀ x, d = some x → x < c.n) : Sim c (σ.put d v) Γ (a.put d u) w := by
  cases d with
  | none => exact h
  | some d =>
    refine ⟨fun x y hx => ?_, h.mm, h.inj, h.disj, h.below, h.hb, h.defs, ?_⟩
    · have hlt : d < a.tmps.size := by rw [h.sz]; exact hd d rfl
      by_cases hxd : x = d
      · subst hxd
        simp only [St.put, look_self] at hx
        injection hx with hx
        subst hx
        exact ⟨u, by simp [Act.put, hlt], hv⟩
      · simp only [St.put] at hx
        rw [look_ne _ _ hxd] at hx
        obtain ⟨u', h1, h2⟩ := h.tm x y hx
        exact ⟨u', by simp only [Act.put]; rw [Array.getElem?_setIfInBounds_ne (Ne.symm hxd)]; exact h1, h2⟩
    · simp only [Act.put, Array.size_setIfInBounds]; exact h.sz
end
end Go.Proofs.Ytjkbecgenjhaaaa.DW

/-
  New blocks, stores, rows that grow: each turns one entry. No program here.
-/
namespace Go.Proofs.Ytjkbecgenjhaaaa.DW
open Go.RowKit

def Asg.setB (Γ : Asg) (k b : Nat) : Asg := ⟨fun j => if j = k then b else Γ.β j, Γ.hd, Γ.fp⟩
def Asg.setR (Γ : Asg) (k : Nat) (v : Value) (f : List Nat) : Asg := ⟨Γ.β, fun j => if j = k then v else Γ.hd j, fun j => if j = k then f else Γ.fp j⟩
theorem Asg.setB_ne (Γ : Asg) (k b : Nat) : ∀ j, j ≠ k → (Γ.setB k b).β j = Γ.β j ∧ (Γ.setB k b).hd j = Γ.hd j ∧ (Γ.setB k b).fp j = Γ.fp j := fun j h => ⟨if_neg h, rfl, rfl⟩
theorem Asg.setR_ne (Γ : Asg) (k : Nat) (v : Value) (f : List Nat) : ∀ j, j ≠ k → (Γ.setR k v f).β j = Γ.β j ∧ (Γ.setR k v f).hd j = Γ.hd j ∧ (Γ.setR k v f).fp j = Γ.fp j := fun j h => ⟨rfl, if_neg h, if_neg h⟩
theorem Asg.setR_hd (Γ : Asg) (k : Nat) (v : Value) (f : List Nat) : (Γ.setR k v f).hd k = v := if_pos rfl
theorem Asg.setR_fp (Γ : Asg) (k : Nat) (v : Value) (f : List Nat) : (Γ.setR k v f).fp k = f := if_pos rfl
theorem Asg.setB_β (Γ : Asg) (k b : Nat) : (Γ.setB k b).β k = b := if_pos rfl
theorem below_alloc (w : World) (o : Obj) : Below w.heap.size w (w.alloc o) := (Below.refl _ _).alloc (Nat.le_refl _) o
theorem heap_at {w : World} {o : Obj} : (w.alloc o).heap[w.heap.size]? = some o := by show (w.heap.push o)[w.heap.size]? = some o; simp
theorem size_alloc (w : World) (o : Obj) : (w.alloc o).heap.size = w.heap.size + 1 := by show (w.heap.push o).size = _; simp

section
variable {c : Cx} {σ : St} {Γ : Asg} {a : Act} {w : World}
theorem Sim.newBox (h : Sim c σ Γ a w) {k : Nat} (hk : look σ.mem k = none) {cs : List AV} {us : Array Value} (e : TypeId) (hc : All2 (CRep c σ.mem Γ w) cs us.toList) :
    Sim c ⟨σ.tmps, (k, .box cs) :: σ.mem⟩ (Γ.setB k w.heap.size) a (w.alloc (.cells us e)) := by
  have hne : ∀ v u, CRep c σ.mem Γ w v u → CRep c σ.mem Γ (w.alloc (.cells us e)) v u := fun v u => crep_frame (below_alloc w _)
  refine h.chg ⟨Asg.setB_ne Γ k _, rfl, rfl, rfl, by simp, fun b hb _ => Below.heap_alloc w _ b hb, fun b hb => .inl ?_, fun b hb => by simp [Blk.ofp] at hb⟩ ?_ ?_ ?_ ?_
  · have : b = (Γ.setB k w.heap.size).β k := hb
    rw [Asg.setB_β] at this; omega
  · rintro ver u ⟨_, B, hB, _⟩; rw [hk] at hB; cases hB
  · rintro ver i off u ⟨_, B, hB, _⟩; rw [hk] at hB; cases hB
  · rintro ⟨cs, hB⟩; rw [hk] at hB; cases hB
  · intro hcr
    exact ⟨by rw [Asg.setB_β]; exact h.hb, us, e, by rw [Asg.setB_β]; exact heap_at, hc.mono fun v u _ hv => hcr v u hv⟩
theorem list_put {α : Type} {cur cur' us : List α} {off : Nat} (hl : off + us.length ≤ cur.length) (hs : cur'.length = cur.length) (h1 : ∀ j v, us[j]? = some v → cur'[off + j]? = some v)
    (h2 : ∀ i, i < off ∨ off + us.length ≤ i → cur'[i]? = cur[i]?) : cur' = cur.take off ++ us ++ cur.drop (off + us.length) := by
  apply List.ext_getElem?
  intro i
  rcases Nat.lt_or_ge i off with hi | hi
  · rw [h2 i (.inl hi), List.append_assoc, List.getElem?_append_left (by rw [List.length_take]; omega), List.getElem?_take, if_pos hi]
  · rcases Nat.lt_or_ge i (off + us.length) with hj | hj
    · have hlt : i - off < us.length := by omega
      have := h1 (i - off) us[i - off] (List.getElem?_eq_getElem hlt)
      rw [show off + (i - off) = i by omega] at this
      rw [this, List.getElem?_append_left (by rw [List.length_append, List.length_take]; omega), List.getElem?_append_right (by rw [List.length_take]; omega), List.length_take, Nat.min_eq_left (by omega), List.getElem?_eq_getElem hlt]
    · rw [h2 i (.inr hj), List.getElem?_append_right (by rw [List.length_append, List.length_take]; omega), List.getElem?_drop, List.length_append, List.length_take, Nat.min_eq_left (by omega)]
      congr 1; omega
theorem Sim.setBox (h : Sim c σ Γ a w) {k off : Nat} {cs cs' : List AV} {us : List Value} (hk : look σ.mem k = some (.box cs)) (hc : All2 (CRep c σ.mem Γ w) cs' us) (hl : off + cs'.length ≤ cs.length) :
    Sim c ⟨σ.tmps, (k, .box (cs.take off ++ cs' ++ cs.drop (off + cs'.length))) :: σ.mem⟩ Γ a (putCells w (Γ.β k) off us) := by
  obtain ⟨hb, cur, e, hg, hcur⟩ := h.mm k _ hk
  have hlu := hc.len
  have hlc := hcur.len
  obtain ⟨cur', g1, g2, g3, g4⟩ := putCells_row (Γ.β k) e us w off cur hg (by simp at hlc; omega)
  have hbel := putCells_below (B := c.base) (w0 := w) (Γ.β k) us w off (Below.refl _ _) hb
  refine h.chg ⟨fun j _ => ⟨rfl, rfl, rfl⟩, hbel.os, hbel.tape, hbel.output, hbel.size, fun b _ hm => putCells_other _ _ _ _ _ ?_, fun b hb => .inr ⟨_, hk, hb⟩, fun b hb => by simp [Blk.ofp] at hb⟩ ?_ ?_ ?_ ?_
  · intro e; exact hm _ hk e
  · rintro ver u ⟨_, B, hB, _⟩; rw [hk] at hB; injection hB with hB; subst hB; trivial
  · rintro ver i off u ⟨h1, B, hB, _⟩; exact ⟨h1, _, look_self .., fun e t v o l hh => by cases hh⟩
  · exact fun _ => ⟨⟨_, rfl⟩, rfl⟩
  · intro hcr
    refine ⟨hb, cur', e, g1, ?_⟩
    have : cur'.toList = cur.toList.take off ++ us ++ cur.toList.drop (off + us.length) := by
      refine list_put (by simp at hlc; simp; omega) (by simp [g2]) (fun j v hj => ?_) (fun i hi => ?_)
      · rw [Array.getElem?_toList]; exact g3 j v hj
      · rw [Array.getElem?_toList, Array.getElem?_toList]; exact g4 i hi
    rw [this, ← hlu]
    have m1 := hcur.mono fun v u _ => hcr v u
    have m2 := hc.mono fun v u _ => hcr v u
    exact ((m1.take off).app m2).app (m1.drop _)
theorem Sim.newRow (h : Sim c σ Γ a w) {k : Nat} (hk : look σ.mem k = none) {w' : World} (hb : Below w.heap.size w w') {e : TypeId} {t : Ty} {o : Bool} {l : List t.den} {v : Value} {fps : List (List Nat)}
    (hg : GrowF t.rp c.base w' e v l fps) (hv : ∀ b, v.ownBlock = some b → w.heap.size ≤ b) (hgd : ∀ b ∈ fps.flatten, w.heap.size ≤ b ∧ v.ownBlock ≠ some b ∨ b < w.heap.size ∧ Gd c σ.mem Γ b)
    (ho : o = true → OwnFp c.base w' fps.flatten ∧ ∀ b ∈ fps.flatten, ∀ j B, look σ.mem j = some B → b ∉ B.ofp Γ j) :
    Sim c ⟨σ.tmps, (k, .row e t 0 o l) :: σ.mem⟩ (Γ.setR k v fps.flatten) a w' := by
  have ch : Chg c σ Γ w k (.row e t 0 o l) (Γ.setR k v fps.flatten) w' := by
    refine ⟨Asg.setR_ne Γ k _ _, hb.os, hb.tape, hb.output, hb.size, fun b hlt _ => hb.block b hlt, fun b hm => .inl (hv b ?_), fun b hf j B _ hj => ?_⟩
    · have : ((Γ.setR k v fps.flatten).hd k).ownBlock = some b := hm
      rw [Asg.setR_hd] at this; exact this
    · cases o with
      | false => simp [Blk.ofp] at hf
      | true =>
        simp only [Blk.ofp, Asg.setR_fp] at hf
        exact (ho rfl).2 b hf j B hj
  refine h.chg ch ?_ ?_ ?_ ?_
  · rintro ver u ⟨_, B, hB, _⟩; rw [hk] at hB; cases hB
  · rintro ver i off u ⟨_, B, hB, _⟩; rw [hk] at hB; cases hB
  · rintro ⟨cs, hB⟩; rw [hk] at hB; cases hB
  · intro hcr
    refine ⟨fps, by rw [Asg.setR_hd]; exact hg, Asg.setR_fp .., fun b hbf => ?_, fun hoo => by rw [Asg.setR_fp]; exact (ho hoo).1⟩
    rw [Asg.setR_fp] at hbf
    rcases hgd b hbf with ⟨h1, h2⟩ | ⟨h1, h2⟩
    · refine ⟨.inr (Nat.le_trans h.hb h1), ?_⟩
      rintro ⟨j, B, hj, hm⟩
      by_cases hjk : j = k
      · subst hjk
        rw [look_self] at hj; injection hj with hj; subst hj
        have : ((Γ.setR j v fps.flatten).hd j).ownBlock = some b := hm
        rw [Asg.setR_hd] at this; exact h2 this
      · rw [look_ne _ _ hjk] at hj
        have hm' : B.mut Γ j b := by
          obtain ⟨e1, e2, _⟩ := Asg.setR_ne Γ k v fps.flatten j hjk
          cases B <;> simp only [Blk.mut, e1, e2] at hm ⊢ <;> exact hm
        have := (h.mut_lt hj hm').2; omega
    · exact ch.gd h2 h1
/-- A row has grown, or an element of it was set; a new version of its header. -/
theorem Sim.updRow (h : Sim c σ Γ a w) {k : Nat} {e : TypeId} {t : Ty} {ver ver' : Nat} {o o' : Bool} {l l' : List t.den} (hk : look σ.mem k = some (.row e t ver o l)) {w' : World} {v' : Value} {fps' : List (List Nat)}
    (hg : GrowF t.rp c.base w' e v' l' fps') (hw : w.grownBy w' (Γ.hd k).ownBlock) (hv : v'.ownBlock = (Γ.hd k).ownBlock ∨ ∀ b, v'.ownBlock = some b → w.heap.size ≤ b)
    (hver : ver' = ver + 1 ∨ ver' = ver ∧ v' = Γ.hd k)
    (hgd : ∀ b ∈ fps'.flatten, b < w.heap.size ∧ Gd c σ.mem Γ b)
    (ho : o' = true → OwnFp c.base w' fps'.flatten ∧ ∀ b ∈ fps'.flatten, ∀ j B, j ≠ k → look σ.mem j = some B → b ∉ B.ofp Γ j) :
    Sim c ⟨σ.tmps, (k, .row e t ver' o' l') :: σ.mem⟩ (Γ.setR k v' fps'.flatten) a w' := by
  have ch : Chg c σ Γ w k (.row e t ver' o' l') (Γ.setR k v' fps'.flatten) w' := by
    refine ⟨Asg.setR_ne Γ k _ _, hw.os, hw.tape, hw.output, hw.size, fun b hlt hm => hw.block b hlt fun e => hm _ hk e.symm, fun b hm => ?_, fun b hf j B hjk hj => ?_⟩
    · have hm' : ((Γ.setR k v' fps'.flatten).hd k).ownBlock = some b := hm
      rw [Asg.setR_hd] at hm'
      rcases hv with hv | hv
      · exact .inr ⟨_, hk, by show (Γ.hd k).ownBlock = some b; rw [← hv]; exact hm'⟩
      · exact .inl (hv b hm')
    · cases o' with
      | false => simp [Blk.ofp] at hf
      | true =>
        simp only [Blk.ofp, Asg.setR_fp] at hf
        exact (ho rfl).2 b hf j B hjk hj
  refine h.chg ch ?_ ?_ ?_ ?_
  · rintro v u ⟨_, B, hB, hbb⟩
    rw [hk] at hB; injection hB with hB; subst hB
    obtain ⟨hle, hbh⟩ := hbb
    rcases hver with rfl | ⟨rfl, rfl⟩
    · exact ⟨by omega, fun e => by omega⟩
    · exact ⟨hle, fun e => by rw [Asg.setR_hd]; exact hbh e⟩
  · rintro v i off u ⟨h1, B, hB, hbh⟩
    rw [hk] at hB; injection hB with hB; subst hB
    obtain ⟨hle, hh⟩ := hbh e t ver o l rfl
    refine ⟨h1, _, look_self .., fun e2 t2 v2 o2 l2 he => ?_⟩
    injection he with e1 e2 e3 e4 e5
    subst e2 e3
    rcases hver with rfl | ⟨rfl, rfl⟩
    · exact ⟨by omega, fun e => by omega⟩
    · exact ⟨hle, fun e => by rw [Asg.setR_hd]; exact hh e⟩
  · rintro ⟨cs, hB⟩; rw [hk] at hB; cases hB
  · intro hcr
    refine ⟨fps', by rw [Asg.setR_hd]; exact hg, Asg.setR_fp .., fun b hbf => ?_, fun hoo => by rw [Asg.setR_fp]; exact (ho hoo).1⟩
    rw [Asg.setR_fp] at hbf
    exact ch.gd (hgd b hbf).2 (hgd b hbf).1
/-- An entry is written no more. -/
theorem Sim.freeze (h : Sim c σ Γ a w) {k : Nat} {B : Blk} (hk : look σ.mem k = some B) (B' : Blk)
    (hB : (∃ e t ver o l, B = .row e t ver o l ∧ B' = .froz t ver l) ∨ (∃ t l, B = .odat t l ∧ B' = .froz t 0 l) ∨ ((∀ cs, B ≠ .box cs) ∧ B' = .dead)) : Sim c ⟨σ.tmps, (k, B') :: σ.mem⟩ Γ a w := by
  have hno : ∀ b, ¬ B'.mut Γ k b := by
    intro b
    rcases hB with ⟨e, t, ver, o, l, rfl, rfl⟩ | ⟨t, l, rfl, rfl⟩ | ⟨_, rfl⟩ <;> exact id
  have hno2 : B'.ofp Γ k = [] := by rcases hB with ⟨e, t, ver, o, l, rfl, rfl⟩ | ⟨t, l, rfl, rfl⟩ | ⟨_, rfl⟩ <;> rfl
  have ch : Chg c σ Γ w k B' Γ w := ⟨fun j _ => ⟨rfl, rfl, rfl⟩, rfl, rfl, rfl, Nat.le_refl _, fun _ _ _ => rfl, fun b hb => absurd hb (hno b), fun b hb => by rw [hno2] at hb; cases hb⟩
  refine h.chg ch ?_ ?_ ?_ ?_
  · rintro ver u ⟨h1, C, hC, hh⟩
    rw [hk] at hC; injection hC with hC; subst hC
    have hold := h.mm k B hk
    rcases hB with ⟨e, t, ver', o, l, rfl, rfl⟩ | ⟨t, l, rfl, rfl⟩ | ⟨_, rfl⟩
    · intro e
      obtain ⟨fps, hg, hf, hgd, _⟩ := hold
      rw [hh.2 e]
      obtain ⟨xs, ho, hl, he⟩ := hg
      have hown := ho
      rcases ho.2 with ⟨hn, h0⟩ | ⟨g, cap, cur, hv, hbg, hg', h1', h2', h3', h4'⟩
      · have : l = [] := List.eq_nil_of_length_eq_zero h0
        subst this
        rw [hn]
        exact ⟨[], ⟨none, 0, rfl, Nat.le_refl _, Nat.zero_le _, .inl ⟨rfl, rfl⟩⟩, fun b hb => by cases hb⟩
      · rw [hv]
        by_cases hl0 : l = []
        · subst hl0
          exact ⟨[], ⟨_, cap, rfl, h1', h2', .inl ⟨rfl, rfl⟩⟩, fun b hb => by cases hb⟩
        · refine ⟨g :: fps.flatten, ⟨_, cap, rfl, h1', h2', .inr ⟨g, 0, fps, hl0, rfl, rfl, hl, fun i x hx => ?_⟩⟩, fun b hb => ?_⟩
          · obtain ⟨f, cs, hfi, hr, hc⟩ := he i x hx
            refine ⟨f, cs, hfi, hr, fun j d hj => ?_⟩
            have hx2 := hc j d hj
            rw [Nat.zero_add, cell_of_row w g _ cur _ (0, 0) hg', ← Array.getElem?_toList]
            rw [← h4', List.getElem?_take] at hx2
            split at hx2
            · exact hx2
            · cases hx2
          · rcases List.mem_cons.1 hb with rfl | hb
            · refine ⟨.inr hbg, ?_⟩
              rintro ⟨j, C, hj, hm⟩
              by_cases hjk : j = k
              · subst hjk; rw [look_self] at hj; injection hj with hj; subst hj; exact hno _ hm
              · rw [look_ne _ _ hjk] at hj
                exact hjk (h.inj j k C _ b hj hk hm (by show (Γ.hd k).ownBlock = some b; rw [hv]; rfl))
            · exact ch.gd (hgd b (hf ▸ hb)) (GrowF.lt (A := t.rp) ⟨xs, hown, hl, he⟩ b hb)
    · intro e
      obtain ⟨hr, hgd, _⟩ := hold
      rw [hh e.symm]
      exact ⟨_, hr, fun b hb => ch.gd (hgd b hb) ((Rp.slice t.rp t.pos).lt hr b hb)⟩
    · trivial
  · rintro ver i off u ⟨h1, C, hC, _⟩
    refine ⟨h1, B', look_self .., fun e t v o l he => ?_⟩
    rcases hB with ⟨e, t, ver, o, l, rfl, rfl⟩ | ⟨t, l, rfl, rfl⟩ | ⟨_, rfl⟩ <;> cases he
  · rintro ⟨cs, hC⟩
    rw [hk] at hC; injection hC with hC; subst hC
    rcases hB with ⟨e, t, ver, o, l, h1, _⟩ | ⟨t, l, h1, _⟩ | ⟨h1, _⟩
    · cases h1
    · cases h1
    · exact absurd rfl (h1 cs)
  · intro _
    rcases hB with ⟨e, t, ver, o, l, rfl, rfl⟩ | ⟨t, l, rfl, rfl⟩ | ⟨_, rfl⟩ <;> trivial
theorem Sim.newOdat (h : Sim c σ Γ a w) {k : Nat} (hk : look σ.mem k = none) {t : Ty} {l : List t.den} {v : Value} {fp : List Nat} (hr : (Rp.slice t.rp t.pos).rep w [v] l fp) (ho : OwnFp c.base w fp) (hgd : ∀ b ∈ fp, Gd c σ.mem Γ b)
    (hd : ∀ b ∈ fp, ∀ j B, look σ.mem j = some B → b ∉ B.ofp Γ j) : Sim c ⟨σ.tmps, (k, .odat t l) :: σ.mem⟩ (Γ.setR k v fp) a w := by
  have ch : Chg c σ Γ w k (.odat t l) (Γ.setR k v fp) w := by
    refine ⟨Asg.setR_ne Γ k _ _, rfl, rfl, rfl, Nat.le_refl _, fun _ _ _ => rfl, fun b hb => hb.elim, fun b hf j B _ hj => ?_⟩
    simp only [Blk.ofp, Asg.setR_fp] at hf
    exact hd b hf j B hj
  refine h.chg ch ?_ ?_ ?_ ?_
  · rintro ver u ⟨_, B, hB, _⟩; rw [hk] at hB; cases hB
  · rintro ver i off u ⟨_, B, hB, _⟩; rw [hk] at hB; cases hB
  · rintro ⟨cs, hB⟩; rw [hk] at hB; cases hB
  · intro _
    refine ⟨by rw [Asg.setR_hd, Asg.setR_fp]; exact hr, fun b hb => ?_, by rw [Asg.setR_fp]; exact ho⟩
    rw [Asg.setR_fp] at hb
    exact ch.gd (hgd b hb) ((Rp.slice t.rp t.pos).lt hr b hb)
end
end Go.Proofs.Ytjkbecgenjhaaaa.DW

/-
  Values of a walk as data of a type; contracts of functions on data. No program here.
-/
namespace Go.Proofs.Ytjkbecgenjhaaaa.DW
open Go.RowKit

def cel : (t : Ty) → t.den → List AV
  | .int, n => [.sc (.int .i64 n)]
  | .bool, b => [.sc (.bool b)]
  | .str, s => [.sc (.string s)]
  | .u8, n => [.sc (.int .u8 n)]
  | .cst f, _ => [.sc (f.val)]
  | .prod a b, x => cel a x.1 ++ cel b x.2
  | .slice a, l => [.sl a l]
def av : (t : Ty) → t.den → AV
  | .int, n => .sc (.int .i64 n)
  | .bool, b => .sc (.bool b)
  | .str, s => .sc (.string s)
  | .u8, n => .sc (.int .u8 n)
  | .cst f, _ => .sc (f.val)
  | .prod a b, x => .agg (cel a x.1 ++ cel b x.2)
  | .slice a, l => .sl a l
def Blk.data (B : Blk) (ver : Nat) : Option Lst :=
  match B with
  | .row _ t v _ l => if v = ver then some ⟨t, l⟩ else none
  | .odat t l => if ver = 0 then some ⟨t, l⟩ else none
  | .froz t v l => if v = ver then some ⟨t, l⟩ else none
  | _ => none
/-- The slice that a value stands for. -/
def AV.data (lm : Nat → Option Blk) : AV → Option Lst
  | .sl t l => some ⟨t, l⟩
  | .row k ver => (lm k).bind (·.data ver)
  | _ => none
def IsS (lm : Nat → Option Blk) (a : Ty) (l : List a.den) (v : AV) : Prop := v.data lm = some ⟨a, l⟩ ∨ v = .sc (.slice none 0 0) ∧ l = []
def Is (lm : Nat → Option Blk) : (t : Ty) → t.den → List AV → Prop
  | .int, n, cs => cs = [.sc (.int .i64 n)]
  | .bool, b, cs => cs = [.sc (.bool b)]
  | .str, s, cs => cs = [.sc (.string s)]
  | .u8, n, cs => cs = [.sc (.int .u8 n)]
  | .cst f, _, cs => cs = [.sc (f.val)]
  | .slice a, l, cs => ∃ v, cs = [v] ∧ IsS lm a l v
  | .prod a b, x, cs => Is lm a x.1 (cs.take a.size) ∧ Is lm b x.2 (cs.drop a.size)
def IsV (lm : Nat → Option Blk) (d : Dat) : AV → Prop
  | .agg cs => d.1.isAgg = true ∧ Is lm d.1 d.2 cs
  | v => d.1.isAgg = false ∧ Is lm d.1 d.2 [v]
def AV.rows : AV → List Nat
  | .row k _ => [k]
  | .agg cs => cs.flatMap fun | .row k _ => [k] | _ => []
  | _ => []
def cellRows (cs : List AV) : List Nat := cs.flatMap fun | .row k _ => [k] | _ => []
theorem mem_cellRows {cs : List AV} {k ver : Nat} (h : AV.row k ver ∈ cs) : k ∈ cellRows cs := List.mem_flatMap.2 ⟨_, h, by simp⟩
theorem data_congr {lm lm' : Nat → Option Blk} {v : AV} (h : ∀ k ver, v = .row k ver → lm' k = lm k) : v.data lm' = v.data lm := by
  cases v <;> simp only [AV.data]
  rw [h _ _ rfl]
theorem Is_congr {lm lm' : Nat → Option Blk} : ∀ {t : Ty} {x : t.den} {cs : List AV}, (∀ k ∈ cellRows cs, lm' k = lm k) → Is lm t x cs → Is lm' t x cs
  | .int, _, _, _, h => h
  | .bool, _, _, _, h => h
  | .str, _, _, _, h => h
  | .u8, _, _, _, h => h
  | .cst _, _, _, _, h => h
  | .slice a, l, cs, hc, ⟨v, e, h⟩ => ⟨v, e, h.imp (fun h => (data_congr fun k ver ek => hc k (by subst e ek; simp [cellRows])).trans h) id⟩
  | .prod a b, x, cs, hc, ⟨h1, h2⟩ =>
    ⟨Is_congr (fun k hk => hc k (by obtain ⟨v, hv, hkv⟩ := List.mem_flatMap.1 hk; exact List.mem_flatMap.2 ⟨v, List.mem_of_mem_take hv, hkv⟩)) h1,
     Is_congr (fun k hk => hc k (by obtain ⟨v, hv, hkv⟩ := List.mem_flatMap.1 hk; exact List.mem_flatMap.2 ⟨v, List.mem_of_mem_drop hv, hkv⟩)) h2⟩
theorem IsV_congr {lm lm' : Nat → Option Blk} {d : Dat} {v : AV} (hc : ∀ k ∈ v.rows, lm' k = lm k) (h : IsV lm d v) : IsV lm' d v := by
  cases v with
  | agg cs => exact ⟨h.1, Is_congr hc h.2⟩
  | row k ver => exact ⟨h.1, Is_congr (fun j hj => hc j (by simpa [cellRows, AV.rows] using hj)) h.2⟩
  | _ => exact ⟨h.1, Is_congr (fun j hj => by simp [cellRows] at hj) h.2⟩

/-- How a value of a type stands in one value. -/
def pk (t : Ty) (v : Value) (cs : List Value) : Prop := (t.isAgg = true ∧ v = .agg cs.toArray) ∨ (t.isAgg = false ∧ cs = [v])
def DRep (w : World) (v : Value) (d : Dat) (fp : List Nat) : Prop := ∃ cs, pk d.1 v cs ∧ d.1.rp.rep w cs d.2 fp
def DRes (own : Bool) (base : Nat) (S : Nat → Prop) (w : World) (v : Value) (d : Dat) : Prop := ∃ fp, DRep w v d fp ∧ (own = true → OwnFp base w fp) ∧ ∀ b ∈ fp, S b ∨ base ≤ b
def ResOK (own : Bool) (base : Nat) (S : Nat → Prop) (w : World) (v : Value) : List Dat → Prop
  | [d] => DRes own base S w v d
  | ds => ∃ us : List Value, v = .tuple us.toArray ∧ All2 (DRes false base S w) us ds
/-- The contract of a function: given arguments that hold 'args' it returns 'res', in memory of its own if 'own', and turns nothing that was there. -/
def Fn (P : Program) (f : FuncId) (args : List Dat) (own : Bool) (res : List Dat) : Prop :=
  (∀ vs w, (callFunc f vs).run P w = .ok (.enter f vs) w) ∧
  ∀ (w : World) (vs : List Value) (S : Nat → Prop), All2 (fun v d => ∃ fp, DRep w v d fp ∧ ∀ b ∈ fp, S b) vs args →
    Calls P f vs.toArray w fun e w' => Below w.heap.size w w' ∧ ∃ v, e = .returned v ∧ ResOK own w.heap.size S w' v res
theorem DRes.sh {own : Bool} {base : Nat} {S : Nat → Prop} {w : World} {v : Value} {d : Dat} (h : DRes own base S w v d) : DRes false base S w v d := let ⟨fp, h1, _, h3⟩ := h; ⟨fp, h1, (fun h => by cases h), h3⟩
theorem Fn.sh {P : Program} {f : FuncId} {args : List Dat} {own : Bool} {res : List Dat} (h : Fn P f args own res) : Fn P f args false res :=
  ⟨h.1, fun w vs S ha => (h.2 w vs S ha).mono fun e w' ⟨hb, v, he, hr⟩ => ⟨hb, v, he, by
    match res, hr with
    | [], hr => exact hr
    | [d], hr => exact DRes.sh hr
    | _ :: _ :: _, hr => exact hr⟩⟩

section
variable {c : Cx} {σ : St} {Γ : Asg} {a : Act} {w : World}
theorem cel_rep {M : Mm} : ∀ {t : Ty} {x : t.den} {cs : List Value} {fp : List Nat}, t.rp.rep w cs x fp → (∀ b ∈ fp, Gd c M Γ b) → All2 (CRep c M Γ w) (cel t x) cs
  | .int, n, cs, fp, h, _ => by obtain ⟨rfl, _, hI⟩ := h; exact ⟨⟨rfl, rfl, hI⟩, trivial⟩
  | .bool, n, cs, fp, h, _ => by obtain ⟨rfl, _⟩ := h; exact ⟨⟨rfl, rfl, trivial⟩, trivial⟩
  | .str, n, cs, fp, h, _ => by obtain ⟨rfl, _, hI⟩ := h; exact ⟨⟨rfl, rfl, hI⟩, trivial⟩
  | .u8, n, cs, fp, h, _ => by obtain ⟨rfl, _, hI⟩ := h; exact ⟨⟨rfl, rfl, hI⟩, trivial⟩
  | .cst f, n, cs, fp, h, _ => by obtain ⟨rfl, _⟩ := h; exact ⟨⟨rfl, f.one, f.ok⟩, trivial⟩
  | .slice s, l, cs, fp, h, hg => by
    have h' : (Rp.slice s.rp s.pos).rep w cs l fp := h
    obtain ⟨ad, cc, rfl, _⟩ := h
    exact ⟨⟨fp, h', hg⟩, trivial⟩
  | .prod s u, x, cs, fp, h, hg => by
    obtain ⟨c1, c2, f1, f2, rfl, rfl, h1, h2⟩ := h
    exact (cel_rep h1 fun b hb => hg b (List.mem_append.2 (.inl hb))).app (cel_rep h2 fun b hb => hg b (List.mem_append.2 (.inr hb)))
theorem av_rep {M : Mm} {d : Dat} {v : Value} {fp : List Nat} (h : DRep w v d fp) (hg : ∀ b ∈ fp, Gd c M Γ b) : ARep c M Γ w (av d.1 d.2) v := by
  obtain ⟨t, x⟩ := d
  obtain ⟨cs, hp, hr⟩ := h
  have hc := cel_rep hr hg
  cases t with
  | prod s u =>
    rcases hp with ⟨_, rfl⟩ | ⟨h, _⟩
    · exact ⟨cs, rfl, hc⟩
    · cases h
  | _ =>
    rcases hp with ⟨h, _⟩ | ⟨_, rfl⟩
    · cases h
    · exact hc.1
theorem grow_rep {t : Ty} {base : Nat} {e : TypeId} {v : Value} {l : List t.den} {fps : List (List Nat)} (h : GrowF t.rp base w e v l fps) :
    ∃ fp, (Rp.slice t.rp t.pos).rep w [v] l fp ∧ (fp = [] ∨ ∃ g, v.ownBlock = some g ∧ fp = g :: fps.flatten ∧ base ≤ g ∧ Free w g) := by
  obtain ⟨xs, ho, hl, he⟩ := h
  rcases ho.2 with ⟨hn, h0⟩ | ⟨g, cap, cur, hv, hbg, hg', h1', h2', h3', h4'⟩
  · have : l = [] := List.eq_nil_of_length_eq_zero h0
    subst this
    rw [hn]
    exact ⟨[], ⟨none, 0, rfl, Nat.le_refl _, Nat.zero_le _, .inl ⟨rfl, rfl⟩⟩, .inl rfl⟩
  · rw [hv]
    by_cases hl0 : l = []
    · subst hl0
      exact ⟨[], ⟨_, cap, rfl, h1', h2', .inl ⟨rfl, rfl⟩⟩, .inl rfl⟩
    · refine ⟨g :: fps.flatten, ⟨_, cap, rfl, h1', h2', .inr ⟨g, 0, fps, hl0, rfl, rfl, hl, fun i x hx => ?_⟩⟩, .inr ⟨g, rfl, rfl, hbg, cur, _, hg'⟩⟩
      obtain ⟨f, cs, hfi, hr, hc⟩ := he i x hx
      refine ⟨f, cs, hfi, hr, fun j d hj => ?_⟩
      have hx2 := hc j d hj
      rw [Nat.zero_add, cell_of_row w g _ cur _ (0, 0) hg', ← Array.getElem?_toList]
      rw [← h4', List.getElem?_take] at hx2
      split at hx2
      · exact hx2
      · cases hx2
/-- A slice's value as data: borrowed from a row, or of blocks that nobody writes. -/
theorem Sim.sliceRep (h : Sim c σ Γ a w) {v : AV} {u : Value} {t : Ty} {l : List t.den} (hv : CRep c σ.mem Γ w v u) (hd : v.data (look σ.mem) = some ⟨t, l⟩) :
    ∃ fp, (Rp.slice t.rp t.pos).rep w [u] l fp ∧ (∀ b ∈ fp, c.S b ∨ c.base ≤ b) ∧ ((∀ k ver, v = .row k ver → ∀ e t v o l, look σ.mem k ≠ some (.row e t v o l)) → ∀ b ∈ fp, Gd c σ.mem Γ b) := by
  cases v with
  | sl s m =>
    injection hd with hd
    injection hd with h1 h2
    subst h1
    obtain rfl := eq_of_heq h2
    obtain ⟨fp, hr, hg⟩ := hv
    exact ⟨fp, hr, fun b hb => (hg b hb).1, fun _ => hg⟩
  | row k ver =>
    obtain ⟨_, B, hB, hh⟩ := hv
    simp only [AV.data, hB, Option.bind_some] at hd
    have hm := h.mm k B hB
    cases B with
    | row e s v o m =>
      simp only [Blk.data] at hd
      split at hd
      · rename_i hvv
        injection hd with hd
        injection hd with h1 h2
        subst h1
        obtain rfl := eq_of_heq h2
        obtain ⟨fps, hg, hf, hgd, _⟩ := hm
        rw [hh.2 hvv]
        obtain ⟨fp, hr, hfp⟩ := grow_rep hg
        refine ⟨fp, hr, fun b hb => ?_, fun hn => absurd hB (hn k ver rfl e s v o m)⟩
        rcases hfp with rfl | ⟨g, _, rfl, hbg, _⟩
        · cases hb
        · rcases List.mem_cons.1 hb with rfl | hb
          · exact .inr hbg
          · exact (hgd b (hf ▸ hb)).1
      · cases hd
    | odat s m =>
      simp only [Blk.data] at hd
      split at hd
      · rename_i hvv
        injection hd with hd
        injection hd with h1 h2
        subst h1
        obtain rfl := eq_of_heq h2
        rw [hh hvv]
        exact ⟨_, hm.1, fun b hb => (hm.2.1 b hb).1, fun _ => hm.2.1⟩
      · cases hd
    | froz s v m =>
      simp only [Blk.data] at hd
      split at hd
      · rename_i hvv
        injection hd with hd
        injection hd with h1 h2
        subst h1
        obtain rfl := eq_of_heq h2
        obtain ⟨fp, hr, hg⟩ := hh hvv
        exact ⟨fp, hr, fun b hb => (hg b hb).1, fun _ => hg⟩
      · cases hd
    | _ => cases hd
  | _ => cases hd
theorem Sim.isSRep (h : Sim c σ Γ a w) {v : AV} {u : Value} {t : Ty} {l : List t.den} (hv : CRep c σ.mem Γ w v u) (hd : IsS (look σ.mem) t l v) :
    ∃ fp, (Rp.slice t.rp t.pos).rep w [u] l fp ∧ (∀ b ∈ fp, c.S b ∨ c.base ≤ b) ∧ ((∀ k ver, v = .row k ver → ∀ e t v o l, look σ.mem k ≠ some (.row e t v o l)) → ∀ b ∈ fp, Gd c σ.mem Γ b) := by
  rcases hd with hd | ⟨rfl, rfl⟩
  · exact h.sliceRep hv hd
  · obtain ⟨rfl, _⟩ := hv
    exact ⟨[], ⟨none, 0, rfl, Nat.le_refl _, Nat.zero_le _, .inl ⟨rfl, rfl⟩⟩, (fun b hb => by cases hb), fun _ b hb => by cases hb⟩
theorem Sim.isRep (h : Sim c σ Γ a w) : ∀ {t : Ty} {x : t.den} {cs : List AV} {us : List Value}, All2 (CRep c σ.mem Γ w) cs us → Is (look σ.mem) t x cs →
    ∃ fp, t.rp.rep w us x fp ∧ (∀ b ∈ fp, c.S b ∨ c.base ≤ b) ∧ ((∀ k ver, AV.row k ver ∈ cs → ∀ e t v o l, look σ.mem k ≠ some (.row e t v o l)) → ∀ b ∈ fp, Gd c σ.mem Γ b)
  | .int, n, _, [u], hc, rfl => by obtain ⟨⟨rfl, _, hI⟩, _⟩ := hc; exact ⟨[], ⟨rfl, rfl, hI⟩, (fun b hb => by cases hb), fun _ b hb => by cases hb⟩
  | .bool, n, _, [u], hc, rfl => by obtain ⟨⟨rfl, _⟩, _⟩ := hc; exact ⟨[], ⟨rfl, rfl⟩, (fun b hb => by cases hb), fun _ b hb => by cases hb⟩
  | .str, n, _, [u], hc, rfl => by obtain ⟨⟨rfl, _, hI⟩, _⟩ := hc; exact ⟨[], ⟨rfl, rfl, hI⟩, (fun b hb => by cases hb), fun _ b hb => by cases hb⟩
  | .u8, n, _, [u], hc, rfl => by obtain ⟨⟨rfl, _, hI⟩, _⟩ := hc; exact ⟨[], ⟨rfl, rfl, hI⟩, (fun b hb => by cases hb), fun _ b hb => by cases hb⟩
  | .cst _, n, _, [u], hc, rfl => by obtain ⟨⟨rfl, _⟩, _⟩ := hc; exact ⟨[], ⟨rfl, rfl⟩, (fun b hb => by cases hb), fun _ b hb => by cases hb⟩
  | .slice s, l, cs, [u], hc, hi => by
    obtain ⟨v, e, hs⟩ := hi
    subst e
    obtain ⟨fp, h1, h2, h3⟩ := h.isSRep hc.1 hs
    exact ⟨fp, h1, h2, fun hn => h3 fun k ver e => hn k ver (by rw [e]; exact List.mem_cons_self)⟩
  | .prod s u, x, cs, us, hc, ⟨i1, i2⟩ => by
    obtain ⟨f1, r1, s1, g1⟩ := h.isRep (hc.take s.size) i1
    obtain ⟨f2, r2, s2, g2⟩ := h.isRep (hc.drop s.size) i2
    refine ⟨f1 ++ f2, ⟨_, _, f1, f2, (List.take_append_drop s.size us).symm, rfl, r1, r2⟩, fun b hb => (List.mem_append.1 hb).elim (s1 b) (s2 b), fun hn b hb => (List.mem_append.1 hb).elim (g1 (fun k ver hk => hn k ver (List.mem_of_mem_take hk)) b) (g2 (fun k ver hk => hn k ver (List.mem_of_mem_drop hk)) b)⟩
  | .int, n, _, [], hc, rfl => hc.elim
  | .bool, n, _, [], hc, rfl => hc.elim
  | .str, n, _, [], hc, rfl => hc.elim
  | .u8, n, _, [], hc, rfl => hc.elim
  | .cst _, n, _, [], hc, rfl => hc.elim
  | .slice s, l, cs, [], hc, hi => by obtain ⟨v, e, hs⟩ := hi; subst e; exact hc.elim
  | .int, n, _, _ :: _ :: _, hc, rfl => hc.2.elim
  | .bool, n, _, _ :: _ :: _, hc, rfl => hc.2.elim
  | .str, n, _, _ :: _ :: _, hc, rfl => hc.2.elim
  | .u8, n, _, _ :: _ :: _, hc, rfl => hc.2.elim
  | .cst _, n, _, _ :: _ :: _, hc, rfl => hc.2.elim
  | .slice s, l, cs, _ :: _ :: _, hc, hi => by obtain ⟨v, e, hs⟩ := hi; subst e; exact hc.2.elim
theorem Is.len {lm : Nat → Option Blk} : ∀ {t : Ty} {x : t.den} {cs : List AV}, Is lm t x cs → cs.length = t.size
  | .int, _, _, rfl => rfl
  | .bool, _, _, rfl => rfl
  | .str, _, _, rfl => rfl
  | .u8, _, _, rfl => rfl
  | .cst _, _, _, rfl => rfl
  | .slice _, _, cs, h => by obtain ⟨v, e, _⟩ := h; rw [e]; rfl
  | .prod a b, x, cs, ⟨h1, h2⟩ => by
    have e1 := Is.len h1
    have e2 := Is.len h2
    simp only [List.length_take, List.length_drop] at e1 e2
    have := a.pos; rw [a.rp_size] at this
    have := b.pos; rw [b.rp_size] at this
    show cs.length = a.size + b.size
    omega
theorem Sim.isVRep (h : Sim c σ Γ a w) {v : AV} {u : Value} {d : Dat} (hv : ARep c σ.mem Γ w v u) (hi : IsV (look σ.mem) d v) :
    ∃ fp, DRep w u d fp ∧ (∀ b ∈ fp, c.S b ∨ c.base ≤ b) ∧ ((∀ k ∈ v.rows, ∀ e t v o l, look σ.mem k ≠ some (.row e t v o l)) → ∀ b ∈ fp, Gd c σ.mem Γ b) := by
  cases v with
  | agg cs =>
    obtain ⟨us, rfl, hc⟩ := hv
    obtain ⟨fp, h1, h2, h3⟩ := h.isRep hc hi.2
    exact ⟨fp, ⟨us, .inl ⟨hi.1, rfl⟩, h1⟩, h2, fun hn => h3 fun k ver hk => hn k (mem_cellRows hk)⟩
  | row k ver =>
    obtain ⟨fp, h1, h2, h3⟩ := h.isRep (cs := [.row k ver]) (us := [u]) ⟨hv, trivial⟩ hi.2
    exact ⟨fp, ⟨[u], .inr ⟨hi.1, rfl⟩, h1⟩, h2, fun hn => h3 fun k' ver' hk => hn k' (by simp at hk; simp [AV.rows, hk])⟩
  | _ =>
    have hi2 := hi.2
    obtain ⟨fp, h1, h2, h3⟩ := h.isRep (cs := [_]) (us := [u]) (And.intro (by simpa only [ARep] using hv) trivial) hi2
    exact ⟨fp, ⟨[u], .inr ⟨hi.1, rfl⟩, h1⟩, h2, fun _ => h3 fun k' ver' hk => by simp at hk⟩
end
end Go.Proofs.Ytjkbecgenjhaaaa.DW

/-
  The operations of the walk on data. No program here.
-/
namespace Go.Proofs.Ytjkbecgenjhaaaa.DW
open Go.RowKit

structure Eff where
  v : AV
  mems : Mm
  rd : List Nat
def Eff.val (v : AV) : Eff := ⟨v, [], []⟩
def St.app (σ : St) (d : Option Nat) (e : Eff) : St :=
  match d with
  | some d => ⟨(d, e.v) :: σ.tmps, e.mems ++ σ.mem⟩
  | none => ⟨σ.tmps, e.mems ++ σ.mem⟩
def kst : Value → Option AV
  | .int .i64 n => if -9223372036854775808 ≤ n ∧ n ≤ 9223372036854775807 then some (.sc (.int .i64 n)) else none
  | .int .u8 n => if 0 ≤ n ∧ n ≤ 255 then some (.sc (.int .u8 n)) else none
  | .string s => if s.size ≤ maxLen then some (.sc (.string s)) else none
  | .agg _ => none
  | .tuple _ => none
  | v => some (.sc v)
def ev (lt : Nat → Option AV) : Operand → Option AV
  | .tmp t => lt t
  | .const v => kst v
  | .func f => some (.sc (.func (.func f) #[] #[]))
  | .global _ => none
def opnds (o : Oper) : List Nat := o.op.operands.toList.filterMap fun | .tmp t => some t | _ => none
/-- What it is to know of an operation that it has this effect. -/
def SOK (P : Program) (c : Cx) (lt : Nat → Option AV) (lm : Nat → Option Blk) (nx : Nat) (o : Oper) (e : Eff) : Prop :=
  (∀ p ∈ e.mems, nx ≤ p.1 ∨ p.1 ∈ e.rd) ∧
  ∀ (σ : St) (Γ : Asg) (a : Act) (w : World), Sim c σ Γ a w → (∀ t ∈ opnds o, look σ.tmps t = lt t) → (∀ k ∈ e.rd, look σ.mem k = lm k) → (∀ p ∈ e.mems, p.1 ∉ e.rd → look σ.mem p.1 = none) → (∀ d, o.dst = some d → d < c.n) →
    ∀ (K : Act → World → Prop) (Q : Exit → Act → World → Prop), (∀ Γ' a' w', Sim c (σ.app o.dst e) Γ' a' w' → K a' w') → o.wp P a w K Q

section
variable {P : Program} {c : Cx} {lt : Nat → Option AV} {lm : Nat → Option Blk} {nx : Nat} {o : Oper}
theorem kst_rep {M : Mm} {Γ : Asg} {w : World} {v : Value} {u : AV} (h : kst v = some u) : CRep c M Γ w u v := by
  cases v with
  | int k n =>
    cases k with
    | i64 =>
      simp only [kst] at h
      split at h
      · rename_i hI; injection h with h; subst h; exact ⟨rfl, rfl, hI⟩
      · cases h
    | u8 =>
      simp only [kst] at h
      split at h
      · rename_i hI; injection h with h; subst h; exact ⟨rfl, rfl, hI⟩
      · cases h
    | _ => simp only [kst] at h; injection h with h; subst h; exact ⟨rfl, rfl, trivial⟩
  | string s =>
    simp only [kst] at h
    split at h
    · rename_i hI; injection h with h; subst h; exact ⟨rfl, rfl, hI⟩
    · cases h
  | agg _ => cases h
  | tuple _ => cases h
  | _ => simp only [kst] at h; injection h with h; subst h; exact ⟨rfl, rfl, trivial⟩
theorem crep_vrep {M : Mm} {Γ : Asg} {w : World} {v : AV} {u : Value} (h : CRep c M Γ w v u) : VRep c M Γ w v u := by
  cases v <;> first | exact h | exact h.elim
theorem arep_vrep {M : Mm} {Γ : Asg} {w : World} {v : AV} {u : Value} (h : ARep c M Γ w v u) : VRep c M Γ w v u := by
  cases v <;> first | exact h | (simp only [ARep, CRep] at h)
theorem ev_rep {σ : St} {Γ : Asg} {a : Act} {w : World} (h : Sim c σ Γ a w) {x : Operand} {v : AV} (hl : ∀ t, x = .tmp t → look σ.tmps t = lt t) (hv : ev lt x = some v) : VRep c σ.mem Γ w v (a.eval x) := by
  cases x with
  | tmp t =>
    obtain ⟨u, h1, h2⟩ := h.tm t v ((hl t rfl).trans hv)
    show VRep c σ.mem Γ w v (a.tmps.getD t undef)
    rw [Array.getD_eq_getD_getElem?, h1]; exact h2
  | const k => exact crep_vrep (kst_rep hv)
  | func f => injection hv with hv; subst hv; exact ⟨rfl, rfl, trivial⟩
  | global g => cases hv
theorem wp_value {a : Act} {w w' : World} {u : Value} {K : Act → World → Prop} {Q : Exit → Act → World → Prop} (h : (execOp a.eval o).run P w = .ok (.value u) w') (hk : K (a.put o.dst u) w') : o.wp P a w K Q := by
  unfold Oper.wp; rw [h]; exact hk
theorem wp_skip' {a : Act} {w w' : World} {K : Act → World → Prop} {Q : Exit → Act → World → Prop} (h : (execOp a.eval o).run P w = .ok .skip w') (hk : K (a.put o.dst undef) w') : o.wp P a w K Q := by
  unfold Oper.wp; rw [h]; exact hk
theorem mem_opnds {x : Operand} {t : Nat} (h : x ∈ o.op.operands.toList) (e : x = .tmp t) : t ∈ opnds o := List.mem_filterMap.2 ⟨x, h, by rw [e]⟩
/-- An operation that reads its operands alone and yields a value. -/
theorem SOK.pure {v : AV} {rd : List Nat} (h : ∀ (σ : St) (Γ : Asg) (a : Act) (w : World), Sim c σ Γ a w → (∀ t ∈ opnds o, look σ.tmps t = lt t) → (∀ k ∈ rd, look σ.mem k = lm k) → ∃ u, (execOp a.eval o).run P w = .ok (.value u) w ∧ VRep c σ.mem Γ w v u) : SOK P c lt lm nx o ⟨v, [], rd⟩ := by
  refine ⟨(fun p hp => by cases hp), fun σ Γ a w hs hl hm _ hd K Q hK => ?_⟩
  obtain ⟨u, h1, h2⟩ := h σ Γ a w hs hl hm
  refine wp_value h1 (hK Γ _ _ ?_)
  have := hs.put (d := o.dst) h2 (fun x hx => hd x hx)
  unfold St.app
  cases hdst : o.dst <;> simp only [hdst, St.put] at this ⊢ <;> exact this
/-- An operation that turns one entry. -/
theorem SOK.one {v : AV} {rd : List Nat} {k : Nat} {B : Blk} (hk : nx ≤ k ∨ k ∈ rd)
    (h : ∀ (σ : St) (Γ : Asg) (a : Act) (w : World), Sim c σ Γ a w → (∀ t ∈ opnds o, look σ.tmps t = lt t) → (∀ k ∈ rd, look σ.mem k = lm k) → (k ∉ rd → look σ.mem k = none) →
      ∃ u w' Γ', ((execOp a.eval o).run P w = .ok (.value u) w' ∨ (execOp a.eval o).run P w = .ok .skip w' ∧ u = undef) ∧ Sim c ⟨σ.tmps, (k, B) :: σ.mem⟩ Γ' a w' ∧ VRep c ((k, B) :: σ.mem) Γ' w' v u) : SOK P c lt lm nx o ⟨v, [(k, B)], rd⟩ := by
  refine ⟨(fun p hp => by simp at hp; subst hp; exact hk), fun σ Γ a w hs hl hm hn hd K Q hK => ?_⟩
  obtain ⟨u, w', Γ', h1, h2, h3⟩ := h σ Γ a w hs hl hm (fun hk => hn (k, B) (by simp) hk)
  have h4 : K (a.put o.dst u) w' := by
    refine hK Γ' _ _ ?_
    have := h2.put (d := o.dst) h3 (fun x hx => hd x hx)
    unfold St.app
    cases hdst : o.dst <;> simp only [hdst, St.put] at this ⊢ <;> exact this
  rcases h1 with h1 | ⟨h1, rfl⟩
  · exact wp_value h1 h4
  · exact wp_skip' h1 h4
end

/-- A type of the program stands for this type of data. -/
def Ty.zc : Ty → List Value
  | .int => [.int .i64 0]
  | .bool => [.bool false]
  | .str => [.string ByteArray.empty]
  | .u8 => [.int .u8 0]
  | .cst f => [f.val]
  | .prod a b => a.zc ++ b.zc
  | .slice _ => [.slice none 0 0]
def Ty.zv (t : Ty) : Value := if t.isAgg then .agg t.zc.toArray else t.zc.getD 0 undef
def aggD : TypeDesc → Bool
  | .struct _ | .array _ _ => true
  | _ => false
def TyOK (P : Program) (ty : TypeId) (t : Ty) : Prop :=
  ∃ i d, P.info? ty = some i ∧ i.size = t.size ∧ i.zero = some t.zv ∧ P.underlying ty = some d ∧ aggD d = t.isAgg
def TabOK (P : Program) (T : TypeId → Option Ty) : Prop := ∀ ty t, T ty = some t → TyOK P ty t
theorem tyOK {P : Program} {ty : TypeId} {t : Ty} (h1 : (P.info? ty).map (fun i => (i.size, i.zero)) = some (t.size, some t.zv)) (h2 : (P.underlying ty).map aggD = some t.isAgg) : TyOK P ty t := by
  obtain ⟨i, hi, e⟩ := Option.map_eq_some_iff.1 h1
  obtain ⟨d, hd, e2⟩ := Option.map_eq_some_iff.1 h2
  injection e with e1 e3
  exact ⟨i, d, hi, e1, e3, hd, e2⟩
theorem zc_rep (w : World) : ∀ t : Ty, t.rp.rep w t.zc t.zero []
  | .int => ⟨rfl, rfl, by constructor <;> decide⟩
  | .bool => ⟨rfl, rfl⟩
  | .str => ⟨rfl, rfl, by decide⟩
  | .u8 => ⟨rfl, rfl, by decide⟩
  | .cst _ => ⟨rfl, rfl⟩
  | .prod a b => ⟨_, _, [], [], rfl, rfl, zc_rep w a, zc_rep w b⟩
  | .slice _ => ⟨none, 0, rfl, Nat.le_refl _, Nat.zero_le _, .inl ⟨rfl, rfl⟩⟩
theorem zc_len (t : Ty) : t.zc.length = t.size := by
  have := t.rp.len (zc_rep default t)
  rw [this, t.rp_size]
theorem zv_cells (t : Ty) : t.zv.cells = t.zc.toArray := by
  cases t with
  | cst k => cases k <;> rfl
  | _ => rfl
section
variable {P : Program} {ty : TypeId} {t : Ty}
theorem TyOK.sizeOf (h : TyOK P ty t) (w : World) : (sizeOf ty).run P w = .ok t.size w := by
  obtain ⟨i, d, h1, h2, _⟩ := h
  simp [Go.sizeOf, typeInfo, h1, h2]
theorem TyOK.zero (h : TyOK P ty t) (w : World) : (zeroValue ty).run P w = .ok t.zv w := by
  obtain ⟨i, d, h1, _, h3, _⟩ := h
  simp [zeroValue, typeInfo, h1, h3]
theorem TyOK.agg (h : TyOK P ty t) (w : World) : (isAgg ty).run P w = .ok t.isAgg w := by
  obtain ⟨i, d, _, _, _, h4, h5⟩ := h
  have : (underlying ty).run P w = .ok d w := run_underlying h4 w
  rw [← h5]
  simp only [isAgg, Sem.run_bind, this, Result.andThen_ok]
  cases d <;> simp [aggD]
theorem addr_add (b o n : Nat) : (⟨b, o, none⟩ : Addr).add n = ⟨b, o + n, none⟩ := by
  unfold Addr.add
  by_cases h : n = 0
  · subst h; rfl
  · rw [if_neg h]
end
def cellsOf : AV → List AV
  | .agg cs => cs
  | v => [v]
def AV.ok : AV → Bool
  | .junk | .tup _ => false
  | _ => true
theorem VRep.cells {c : Cx} {M : Mm} {Γ : Asg} {w : World} {v : AV} {u : Value} (h : VRep c M Γ w v u) (hok : v.ok = true) : All2 (CRep c M Γ w) (cellsOf v) u.cells.toList := by
  cases v with
  | junk => cases hok
  | tup _ => cases hok
  | agg cs => obtain ⟨us, rfl, h⟩ := h; exact h
  | _ =>
    simp only [VRep, ARep] at h
    have h' := h
    have h1 := h'.one
    have : u.cells = #[u] := by cases u <;> first | rfl | cases h1
    rw [this]
    exact ⟨h', trivial⟩
def getC (t : Ty) (cs : List AV) (off : Nat) : AV := if t.isAgg then .agg ((cs.drop off).take t.size) else cs.getD off .junk
/-- The cells of a type, out of cells that are known. -/
theorem getC_rep {c : Cx} {M : Mm} {Γ : Asg} {w : World} {t : Ty} {cs : List AV} {us : List Value} {off : Nat} (h : All2 (CRep c M Γ w) cs us) (hl : off + t.size ≤ cs.length) :
    ARep c M Γ w (getC t cs off) (if t.isAgg then .agg ((us.drop off).take t.size).toArray else us.getD off undef) := by
  unfold getC
  cases ha : t.isAgg with
  | true => exact ⟨_, rfl, (h.drop off).take _⟩
  | false =>
    have h1 := t.pos; rw [t.rp_size] at h1
    have hg : cs[off]? = some cs[off] := List.getElem?_eq_getElem (by omega)
    obtain ⟨u, hu, hr⟩ := h.get hg
    simp only [Bool.false_eq_true, if_false]
    rw [List.getD_eq_getElem?_getD, hg, List.getD_eq_getElem?_getD, hu]
    show ARep c M Γ w cs[off] u
    cases hcs : cs[off] <;> rw [hcs] at hr <;> first | exact hr | exact hr.elim
/-- A variable of a type is read. -/
theorem run_loadVar {P : Program} {ty : TypeId} {t : Ty} (ht : TyOK P ty t) {w : World} {b off : Nat} {us : List Value} (hc : ∀ j v, us[j]? = some v → w.cell? ⟨b, off + j, none⟩ = some v) (hl : us.length = t.size) :
    (loadVar ty ⟨b, off, none⟩).run P w = .ok (if t.isAgg then .agg us.toArray else us.getD 0 undef) w := by
  unfold loadVar
  simp only [Sem.run_bind, ht.agg, Result.andThen_ok]
  cases ha : t.isAgg with
  | true =>
    simp only [if_true, Sem.run_bind, ht.sizeOf, Result.andThen_ok]
    rw [← hl, run_loadCells_list w _ us fun j v hj => by rw [addr_add]; exact hc j v hj]
    simp
  | false =>
    simp only [Bool.false_eq_true, if_false]
    have h1 := t.pos; rw [t.rp_size] at h1
    have h0 : us[0]? = some us[0] := List.getElem?_eq_getElem (by omega)
    rw [run_load]
    have := hc 0 _ h0
    rw [Nat.add_zero] at this
    rw [this, List.getD_eq_getElem?_getD, h0]; rfl
theorem run_storeCells' {P : Program} (b : Nat) : ∀ (us : List Value) (i off : Nat) (w : World), (∀ j, j < us.length → ∃ v, w.cell? ⟨b, off + i + j, none⟩ = some v) → (∀ o, w.frozen? ⟨b, o, none⟩ = false) → (∀ u ∈ us, u.oneCell' = true) →
    (storeCells ⟨b, off, none⟩ us i).run P w = .ok () (putCells w b (off + i) us)
  | [], i, off, w, _, _, _ => rfl
  | u :: us, i, off, w, hc, hf, h1 => by
    obtain ⟨v, hv⟩ := hc 0 (by simp)
    have hu := h1 u List.mem_cons_self
    rw [storeCells]
    simp only [Sem.run_bind, addr_add, run_store_cell hu]
    have hst : stored P w ⟨b, off + i, none⟩ u .plain = .ok () (w.setCell ⟨b, off + i, none⟩ u) := by
      simp only [Nat.add_zero] at hv
      simp [stored, hv, hf]
    rw [hst, Result.andThen_ok, run_storeCells' b us (i + 1) off _ (fun j hj => ?_) (fun o => ?_) (fun u hu => h1 u (List.mem_cons_of_mem _ hu))]
    · rw [← Nat.add_assoc]; rfl
    · obtain ⟨v', hv'⟩ := hc (j + 1) (by simp; omega)
      refine ⟨v', ?_⟩
      rw [setCell_out _ (by omega), show off + (i + 1) + j = off + i + (j + 1) by omega]
      exact hv'
    · rw [← hf o]
      simp only [World.frozen?, World.setCell, Array.getElem?_modify]
      by_cases hb : b = b
      · simp only [if_true]
        cases h : w.heap[b]? with
        | none => rfl
        | some x => cases x <;> rfl
      · exact absurd rfl hb
end Go.Proofs.Ytjkbecgenjhaaaa.DW
