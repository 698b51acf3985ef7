/-
  Memory as data: representation predicates for values that live in the heap, with footprints; what a call leaves as it was.
  No program here: worlds, cells and lists only.
-/
import Derived.WalkKit
import Derived.WalkSpells
import Derived.WalkLawsBesides
import Derived.BigQuiet
import Derived.Deep.QuietTactic
import Derived.Lib.Hide
import Derived.StillTailTactics
namespace Go.Proofs.Ytjkbecgenjhaaaa
open Go.RowKit

/-- A store of any value of one cell. -/
@[go_sem] theorem run_store_cell {P : Program} {w : World} {a : Addr} {m : Mode} {v : Value} (hv : v.oneCell' = true) : (store a v m).run P w = stored P w a v m := run_store P w a v m hv

/-- A 64-bit integer. -/
def I64 (a : Int) : Prop := -9223372036854775808 ≤ a ∧ a ≤ 9223372036854775807

/-- How data of a type lie in cells. 'rep w cs a fp': the cells cs hold a, its parts in the blocks fp. -/
structure Rp (α : Type) where
  size : Nat
  rep : World → List Value → α → List Nat → Prop
  len : ∀ {w cs a fp}, rep w cs a fp → cs.length = size
  lt : ∀ {w cs a fp}, rep w cs a fp → ∀ b ∈ fp, b < w.heap.size
  frame : ∀ {w w' cs a fp}, rep w cs a fp → (∀ b ∈ fp, w'.heap[b]? = w.heap[b]?) → rep w' cs a fp
  one : ∀ {w cs a fp}, rep w cs a fp → ∀ v ∈ cs, v.oneCell' = true

theorem lt_of_heap {w : World} {b : Nat} {o : Obj} (h : w.heap[b]? = some o) : b < w.heap.size := (Array.getElem?_eq_some_iff.1 h).1
theorem cell_lt {w : World} {b o : Nat} {v : Value} (h : w.cell? ⟨b, o, none⟩ = some v) : b < w.heap.size := World.block_lt_of_cell? w ⟨b, o, none⟩ h
theorem cell_frame {w w' : World} {b o : Nat} (h : w'.heap[b]? = w.heap[b]?) : w'.cell? ⟨b, o, none⟩ = w.cell? ⟨b, o, none⟩ := World.cell?_of_block (a := ⟨b, o, none⟩) h

def Rp.int : Rp Int where
  size := 1
  rep _ cs a fp := cs = [.int .i64 a] ∧ fp = [] ∧ I64 a
  len h := by rw [h.1]; rfl
  lt h b hb := by rw [h.2.1] at hb; cases hb
  frame h _ := h
  one h v hv := by rw [h.1] at hv; simp at hv; subst hv; rfl

def Rp.bool : Rp Bool where
  size := 1
  rep _ cs a fp := cs = [.bool a] ∧ fp = []
  len h := by rw [h.1]; rfl
  lt h b hb := by rw [h.2] at hb; cases hb
  frame h _ := h
  one h v hv := by rw [h.1] at hv; simp at hv; subst hv; rfl

def Rp.prod {α β : Type} (A : Rp α) (B : Rp β) : Rp (α × β) where
  size := A.size + B.size
  rep w cs a fp := ∃ c1 c2 f1 f2, cs = c1 ++ c2 ∧ fp = f1 ++ f2 ∧ A.rep w c1 a.1 f1 ∧ B.rep w c2 a.2 f2
  len h := by
    obtain ⟨c1, c2, f1, f2, rfl, rfl, h1, h2⟩ := h
    rw [List.length_append, A.len h1, B.len h2]
  lt h b hb := by
    obtain ⟨c1, c2, f1, f2, rfl, rfl, h1, h2⟩ := h
    rcases List.mem_append.1 hb with hb | hb
    · exact A.lt h1 b hb
    · exact B.lt h2 b hb
  frame h hf := by
    obtain ⟨c1, c2, f1, f2, rfl, rfl, h1, h2⟩ := h
    exact ⟨c1, c2, f1, f2, rfl, rfl, A.frame h1 (fun b hb => hf b (List.mem_append.2 (.inl hb))), B.frame h2 (fun b hb => hf b (List.mem_append.2 (.inr hb)))⟩
  one h v hv := by
    obtain ⟨c1, c2, f1, f2, rfl, rfl, h1, h2⟩ := h
    rcases List.mem_append.1 hv with hv | hv
    · exact A.one h1 v hv
    · exact B.one h2 v hv

/-- The elements of a list, one behind the other, from cell 'off' of block b on; 'fps': each element's own blocks. -/
def Elems {α : Type} (A : Rp α) (w : World) (b off : Nat) (l : List α) (fps : List (List Nat)) : Prop :=
  fps.length = l.length ∧ ∀ i x, l[i]? = some x → ∃ f cs, fps[i]? = some f ∧ A.rep w cs x f ∧ ∀ j v, cs[j]? = some v → w.cell? ⟨b, off + i * A.size + j, none⟩ = some v

def Rp.slice {α : Type} (A : Rp α) (pos : 0 < A.size) : Rp (List α) where
  size := 1
  rep w cs l fp := ∃ ad c, cs = [.slice ad l.length c] ∧ l.length ≤ c ∧ c ≤ maxLen ∧
    ((l = [] ∧ fp = []) ∨ ∃ b off fps, l ≠ [] ∧ ad = some ⟨b, off, none⟩ ∧ fp = b :: fps.flatten ∧ Elems A w b off l fps)
  len h := by obtain ⟨ad, c, rfl, _⟩ := h; rfl
  lt := fun {w cs l fp} h k hk => by
    obtain ⟨ad, c, _, _, _, ⟨_, rfl⟩ | ⟨b, off, fps, hl, _, rfl, hlen, he⟩⟩ := h
    · cases hk
    · rcases List.mem_cons.1 hk with rfl | hk
      · match l, hl, he with
        | x :: l, _, he =>
          obtain ⟨f, cs, _, hr, hc⟩ := he 0 x rfl
          have hcl := A.len hr
          have : cs[0]? = some (cs[0]'(by omega)) := List.getElem?_eq_getElem (by omega)
          exact cell_lt (hc 0 _ this)
      · obtain ⟨f, hf, hkf⟩ := List.mem_flatten.1 hk
        obtain ⟨i, hi, hfi⟩ := List.getElem_of_mem hf
        have hx : l[i]? = some (l[i]'(by omega)) := List.getElem?_eq_getElem (by omega)
        obtain ⟨f', cs, hf', hr, _⟩ := he i _ hx
        rw [List.getElem?_eq_getElem hi, hfi] at hf'
        injection hf' with hf'
        subst hf'
        exact A.lt hr k hkf
  frame h hf := by
    obtain ⟨ad, c, h1, h2, h3, h4⟩ := h
    refine ⟨ad, c, h1, h2, h3, ?_⟩
    rcases h4 with h4 | ⟨b, off, fps, hl, ha, rfl, hlen, he⟩
    · exact .inl h4
    · refine .inr ⟨b, off, fps, hl, ha, rfl, hlen, fun i x hx => ?_⟩
      obtain ⟨f, cs, hfi, hr, hc⟩ := he i x hx
      refine ⟨f, cs, hfi, A.frame hr (fun k hk => hf k (List.mem_cons_of_mem _ (List.mem_flatten.2 ⟨f, List.mem_of_getElem? hfi, hk⟩))), fun j v hv => ?_⟩
      rw [cell_frame (hf b List.mem_cons_self)]
      exact hc j v hv
  one h v hv := by obtain ⟨ad, c, rfl, _⟩ := h; simp at hv; subst hv; rfl

/-- The cells hold the data. -/
def Has {α : Type} (A : Rp α) (w : World) (cs : List Value) (a : α) : Prop := ∃ fp, A.rep w cs a fp
theorem Has.below {α : Type} {A : Rp α} {w w' : World} {cs : List Value} {a : α} (h : Has A w cs a) (hb : Below w.heap.size w w') : Has A w' cs a :=
  let ⟨fp, hr⟩ := h; ⟨fp, A.frame hr fun b hb' => hb.block b (A.lt hr b hb')⟩

/-- A block of cells of the call's own, none frozen. -/
def Free (w : World) (b : Nat) : Prop := ∃ cs e, w.heap[b]? = some (.cells cs e (0, 0))
theorem Free.lt {w : World} {b : Nat} (h : Free w b) : b < w.heap.size := by obtain ⟨cs, e, h⟩ := h; exact lt_of_heap h
theorem Free.frame {w w' : World} {b : Nat} (h : Free w b) (hf : w'.heap[b]? = w.heap[b]?) : Free w' b := by obtain ⟨cs, e, h⟩ := h; exact ⟨cs, e, hf.trans h⟩

/-- The data lie in memory of their own, from block 'base' on: no two parts share a block. -/
def OwnFp (base : Nat) (w : World) (fp : List Nat) : Prop := fp.Nodup ∧ ∀ b ∈ fp, base ≤ b ∧ Free w b
def Own {α : Type} (A : Rp α) (base : Nat) (w : World) (cs : List Value) (a : α) : Prop := ∃ fp, A.rep w cs a fp ∧ OwnFp base w fp
theorem Own.has {α : Type} {A : Rp α} {base : Nat} {w : World} {cs : List Value} {a : α} (h : Own A base w cs a) : Has A w cs a := let ⟨fp, hr, _⟩ := h; ⟨fp, hr⟩
theorem Own.below {α : Type} {A : Rp α} {base : Nat} {w w' : World} {cs : List Value} {a : α} (h : Own A base w cs a) (hb : Below w.heap.size w w') : Own A base w' cs a :=
  let ⟨fp, hr, hn, ho⟩ := h
  ⟨fp, A.frame hr fun b hb' => hb.block b (A.lt hr b hb'), hn, fun b hb' => ⟨(ho b hb').1, (ho b hb').2.frame (hb.block b (A.lt hr b hb'))⟩⟩
theorem Own.mono {α : Type} {A : Rp α} {base base' : Nat} {w : World} {cs : List Value} {a : α} (h : Own A base w cs a) (hb : base' ≤ base) : Own A base' w cs a :=
  let ⟨fp, hr, hn, ho⟩ := h
  ⟨fp, hr, hn, fun b hb' => ⟨Nat.le_trans hb (ho b hb').1, (ho b hb').2⟩⟩

/-- All cells and marks below B read as before. -/
theorem bcell {B : Nat} {W w1 : World} (hb : Below B W w1) : (∀ b o, b < B → w1.cell? ⟨b, o, none⟩ = W.cell? ⟨b, o, none⟩) ∧ (∀ b o, b < B → w1.frozen? ⟨b, o, none⟩ = W.frozen? ⟨b, o, none⟩) :=
  ⟨fun b o h => hb.cell (p := ⟨b, o, none⟩) h, fun b o h => hb.frozen (p := ⟨b, o, none⟩) h⟩

theorem _root_.Go.RowKit.Below.drewN {B : Nat} {a w : World} (h : Below B a w) (n : Nat) : Below B a (w.drewN n) := ⟨h.os, h.tape, h.output, h.size, h.block⟩

theorem Below.up {B : Nat} {w w0 w1 : World} (h0 : Below B w w0) (h : Below w0.heap.size w0 w1) (hB : B ≤ w0.heap.size) : Below B w w1 := h0.trans (h.mono hB)

theorem Has.split {α β : Type} {A : Rp α} {B : Rp β} {w : World} {x : α × β} (c1 c2 : List Value) (hl : c1.length = A.size) (h : Has (Rp.prod A B) w (c1 ++ c2) x) : Has A w c1 x.1 ∧ Has B w c2 x.2 := by
  obtain ⟨fp, d1, d2, f1, f2, hc, _, h1, h2⟩ := h
  have hd := A.len h1
  have : c1 = d1 ∧ c2 = d2 := List.append_inj hc (by omega)
  obtain ⟨rfl, rfl⟩ := this
  exact ⟨⟨f1, h1⟩, ⟨f2, h2⟩⟩

theorem Has.len_slice {α : Type} {A : Rp α} {p : 0 < A.size} {w : World} {v : Value} {l : List α} (h : Has (Rp.slice A p) w [v] l) : ∃ ad c, v = .slice ad l.length c ∧ l.length ≤ c ∧ c ≤ maxLen := by
  obtain ⟨fp, ad, c, h1, h2, h3, h4⟩ := h
  injection h1 with h1
  exact ⟨ad, c, h1, h2, h3⟩

theorem Has.elems {α : Type} {A : Rp α} {p : 0 < A.size} {w : World} {v : Value} {l : List α} (h : Has (Rp.slice A p) w [v] l) :
    ∃ ad c, v = .slice ad l.length c ∧ l.length ≤ c ∧ c ≤ maxLen ∧ ∀ i (hi : i < l.length), ∃ b off cs, ad = some ⟨b, off, none⟩ ∧ b < w.heap.size ∧ Has A w cs l[i] ∧ ∀ j u, cs[j]? = some u → w.cell? ⟨b, off + i * A.size + j, none⟩ = some u := by
  obtain ⟨fp, ad, c, h1, h2, h3, h4⟩ := h
  injection h1 with h1
  refine ⟨ad, c, h1, h2, h3, fun i hi => ?_⟩
  rcases h4 with ⟨rfl, _⟩ | ⟨b, off, fps, hl, ha, hfp, hlen, he⟩
  · simp at hi
  · obtain ⟨f, cs, _, hr, hc⟩ := he i l[i] (List.getElem?_eq_getElem hi)
    have hcl := A.len hr
    have h0 : cs[0]? = some (cs[0]'(by omega)) := List.getElem?_eq_getElem (by omega)
    exact ⟨b, off, cs, ha, cell_lt (hc 0 _ h0), ⟨f, hr⟩, hc⟩

theorem Has.len {α : Type} {A : Rp α} {w : World} {cs : List Value} {a : α} (h : Has A w cs a) : cs.length = A.size := let ⟨_, hr⟩ := h; A.len hr
theorem Has.one {α : Type} {A : Rp α} {w : World} {cs : List Value} {a : α} (h : Has A w cs a) (i : Nat) (v : Value) (hv : cs[i]? = some v) : v.oneCell' = true := let ⟨_, hr⟩ := h; A.one hr v (List.mem_of_getElem? hv)
theorem Has.cast {α : Type} {A : Rp α} {w : World} {cs : List Value} {a b : α} (h : Has A w cs a) (e : a = b) : Has A w cs b := e ▸ h
theorem Has.int {w : World} {v : Value} {a : Int} (h : Has Rp.int w [v] a) : v = .int .i64 a ∧ I64 a := by
  obtain ⟨fp, h1, _, h3⟩ := h
  injection h1 with h1
  exact ⟨h1, h3⟩
theorem Has.bool {w : World} {v : Value} {a : Bool} (h : Has Rp.bool w [v] a) : v = .bool a := by
  obtain ⟨fp, h1, _⟩ := h
  injection h1 with h1
theorem Own.int (base : Nat) (w : World) {a : Int} (h : I64 a) : Own Rp.int base w [.int .i64 a] a := ⟨[], ⟨rfl, rfl, h⟩, List.nodup_nil, fun _ hb => by cases hb⟩
theorem Own.bool (base : Nat) (w : World) (a : Bool) : Own Rp.bool base w [.bool a] a := ⟨[], ⟨rfl, rfl⟩, List.nodup_nil, fun _ hb => by cases hb⟩
/-- The same with an upper end: the blocks from lo up to hi. -/
def OwnIn {α : Type} (A : Rp α) (lo hi : Nat) (w : World) (cs : List Value) (a : α) : Prop := ∃ fp, A.rep w cs a fp ∧ fp.Nodup ∧ ∀ b ∈ fp, lo ≤ b ∧ b < hi ∧ Free w b
section
variable {α β : Type} {A : Rp α} {B : Rp β} {lo hi lo2 hi2 : Nat} {w w' : World} {cs c1 c2 : List Value} {a : α} {b : β}
theorem Own.inn (h : Own A lo w cs a) : OwnIn A lo w.heap.size w cs a := let ⟨fp, hr, hn, ho⟩ := h; ⟨fp, hr, hn, fun b hb => ⟨(ho b hb).1, A.lt hr b hb, (ho b hb).2⟩⟩
theorem OwnIn.own (h : OwnIn A lo hi w cs a) (hl : lo2 ≤ lo) : Own A lo2 w cs a := let ⟨fp, hr, hn, ho⟩ := h; ⟨fp, hr, hn, fun b hb => ⟨Nat.le_trans hl (ho b hb).1, (ho b hb).2.2⟩⟩
theorem OwnIn.frame (h : OwnIn A lo hi w cs a) (hf : ∀ b, lo ≤ b → b < hi → w'.heap[b]? = w.heap[b]?) : OwnIn A lo hi w' cs a :=
  let ⟨fp, hr, hn, ho⟩ := h
  ⟨fp, A.frame hr fun b hb => hf b (ho b hb).1 (ho b hb).2.1, hn, fun b hb => ⟨(ho b hb).1, (ho b hb).2.1, (ho b hb).2.2.frame (hf b (ho b hb).1 (ho b hb).2.1)⟩⟩
theorem OwnIn.below {K : Nat} (h : OwnIn A lo hi w cs a) (hb : Below K w w') (hK : hi ≤ K) : OwnIn A lo hi w' cs a := h.frame fun b _ h2 => hb.block b (by omega)
theorem OwnIn.setCell (h : OwnIn A lo hi w cs a) {p : Addr} (hp : p.block < lo ∨ hi ≤ p.block) (v : Value) : OwnIn A lo hi (w.setCell p v) cs a :=
  h.frame fun b _ _ => Below.heap_setCell _ _ _ _ (by omega)
theorem OwnIn.pair (h1 : OwnIn A lo hi w c1 a) (h2 : OwnIn B lo2 hi2 w c2 b) (hm : hi ≤ lo2) (hl : lo ≤ lo2) (hh : hi ≤ hi2) : OwnIn (Rp.prod A B) lo hi2 w (c1 ++ c2) (a, b) := by
  obtain ⟨f1, r1, n1, o1⟩ := h1
  obtain ⟨f2, r2, n2, o2⟩ := h2
  refine ⟨f1 ++ f2, ⟨c1, c2, f1, f2, rfl, rfl, r1, r2⟩, ?_, ?_⟩
  · rw [List.nodup_append]
    refine ⟨n1, n2, fun x hx y hy e => ?_⟩
    have := (o1 x hx).2.1
    have := (o2 y hy).1
    omega
  · intro k hk
    rcases List.mem_append.1 hk with hk | hk
    · exact ⟨(o1 k hk).1, Nat.lt_of_lt_of_le (o1 k hk).2.1 hh, (o1 k hk).2.2⟩
    · exact ⟨Nat.le_trans hl (o2 k hk).1, (o2 k hk).2⟩
theorem OwnIn.int (k : Nat) (w : World) {n : Int} (h : I64 n) : OwnIn Rp.int k k w [.int .i64 n] n := ⟨[], ⟨rfl, rfl, h⟩, List.nodup_nil, fun _ hb => by cases hb⟩
theorem OwnIn.bool (k : Nat) (w : World) (t : Bool) : OwnIn Rp.bool k k w [.bool t] t := ⟨[], ⟨rfl, rfl⟩, List.nodup_nil, fun _ hb => by cases hb⟩
end

/-- Cells stored one behind the other. -/
def putCells (w : World) (g o : Nat) : List Value → World
  | [] => w
  | c :: cs => putCells (w.setCell ⟨g, o, none⟩ c) g (o + 1) cs
theorem putCells_other (g : Nat) (cs : List Value) : ∀ (w : World) (o k : Nat), k ≠ g → (putCells w g o cs).heap[k]? = w.heap[k]? := by
  induction cs with
  | nil => intro w o k _; rfl
  | cons c cs ih => intro w o k hk; exact (ih _ _ _ hk).trans (Below.heap_setCell _ _ _ _ (by exact hk))
theorem putCells_size (g : Nat) (cs : List Value) : ∀ (w : World) (o : Nat), (putCells w g o cs).heap.size = w.heap.size := by
  induction cs with
  | nil => intro w o; rfl
  | cons c cs ih => intro w o; exact (ih _ _).trans (World.size_setCell ..)
theorem putCells_below {B : Nat} {w0 : World} (g : Nat) (cs : List Value) : ∀ (w : World) (o : Nat), Below B w0 w → B ≤ g → Below B w0 (putCells w g o cs) := by
  induction cs with
  | nil => intro w o h _; exact h
  | cons c cs ih => intro w o h hg; exact ih _ _ (h.setCell (p := ⟨g, o, none⟩) hg c) hg
theorem heap_setCell_row {w : World} {g o : Nat} {cur : Array Value} {e : TypeId} (h : w.heap[g]? = some (.cells cur e (0, 0))) (v : Value) : (w.setCell ⟨g, o, none⟩ v).heap[g]? = some (.cells (cur.setIfInBounds o v) e (0, 0)) := by
  simp [World.setCell, Array.getElem?_modify, h]
/-- What the row holds behind the stores. -/
theorem putCells_row (g : Nat) (e : TypeId) (cs : List Value) : ∀ (w : World) (o : Nat) (cur : Array Value), w.heap[g]? = some (.cells cur e (0, 0)) → o + cs.length ≤ cur.size →
    ∃ cur', (putCells w g o cs).heap[g]? = some (.cells cur' e (0, 0)) ∧ cur'.size = cur.size ∧ (∀ j v, cs[j]? = some v → cur'[o + j]? = some v) ∧ ∀ i, i < o ∨ o + cs.length ≤ i → cur'[i]? = cur[i]? := by
  induction cs with
  | nil => intro w o cur h _; exact ⟨cur, h, rfl, fun j v hj => by simp at hj, fun i _ => rfl⟩
  | cons c cs ih =>
    intro w o cur h hl
    simp only [List.length_cons] at hl
    obtain ⟨cur', h1, h2, h3, h4⟩ := ih (w.setCell ⟨g, o, none⟩ c) (o + 1) _ (heap_setCell_row h c) (by simp; omega)
    refine ⟨cur', h1, by rw [h2]; simp, fun j v hj => ?_, fun i hi => ?_⟩
    · cases j with
      | zero =>
        simp at hj
        subst hj
        rw [h4 _ (by omega)]
        simp only [Nat.add_zero]
        rw [Array.getElem?_setIfInBounds_self_of_lt (by omega)]
      | succ j =>
        have := h3 j v (by simpa using hj)
        rw [← this]
        congr 1
        omega
    · simp only [List.length_cons] at hi
      rw [h4 i (by omega), Array.getElem?_setIfInBounds_ne (by omega)]

/-- A row of the call's own, of n elements, of which the first are made. -/
def Made {α : Type} (A : Rp α) (w : World) (g n : Nat) (e : TypeId) (l : List α) : Prop :=
  ∃ cur fps, w.heap[g]? = some (.cells cur e (0, 0)) ∧ cur.size = n * A.size ∧ l.length ≤ n ∧ Elems A w g 0 l fps ∧ fps.flatten.Nodup ∧ ∀ b ∈ fps.flatten, g < b ∧ Free w b
section
variable {α : Type} {A : Rp α} {w w' : World} {g n : Nat} {e : TypeId} {l : List α}
theorem Made.start {zs : List Value} {base : Nat} (h : w.ownsRow base e A.size (.slice (some ⟨g, 0, none⟩) n n) n zs) : Made A w g n e ([] : List α) := by
  rcases h.2 with ⟨h1, _⟩ | ⟨g', cap, cur, hv, _, hg, _, _, hs, _⟩
  · cases h1
  · injection hv with h1 h2 h3
    injection h1 with h1
    injection h1 with h1
    subst h1 h3
    exact ⟨cur, [], hg, hs, Nat.zero_le _, ⟨rfl, fun i x hx => by simp at hx⟩, by simp, fun b hb => by simp at hb⟩
theorem Made.cell (h : Made A w g n e l) (o : Nat) (ho : o < n * A.size) : ∃ v, w.cell? ⟨g, o, none⟩ = some v := by
  obtain ⟨cur, _, hg, hs, _⟩ := h
  exact ⟨cur[o]'(by omega), by rw [cell_of_row w g o cur e (0, 0) hg]; exact Array.getElem?_eq_getElem (by omega)⟩
theorem Made.frozen (h : Made A w g n e l) (o : Nat) : w.frozen? ⟨g, o, none⟩ = false := by
  obtain ⟨cur, _, hg, _⟩ := h
  exact frozen_of_row w g o cur e hg
theorem Made.lt (h : Made A w g n e l) : g < w.heap.size := by obtain ⟨_, _, hg, _⟩ := h; exact lt_of_heap hg
theorem Made.below (h : Made A w g n e l) (hb : Below w.heap.size w w') : Made A w' g n e l := by
  obtain ⟨cur, fps, hg, hs, hl, he, hn, ho⟩ := h
  have hlt : g < w.heap.size := lt_of_heap hg
  refine ⟨cur, fps, (hb.block g hlt).trans hg, hs, hl, ⟨he.1, fun i x hx => ?_⟩, hn, fun b hb' => ⟨(ho b hb').1, (ho b hb').2.frame (hb.block b (ho b hb').2.lt)⟩⟩
  obtain ⟨f, cs, hf, hr, hc⟩ := he.2 i x hx
  exact ⟨f, cs, hf, A.frame hr fun b hb' => hb.block b (A.lt hr b hb'), fun j v hv => by rw [cell_frame (hb.block g hlt)]; exact hc j v hv⟩
/-- The next element is made and stored. -/
theorem Made.step {w1 : World} {x : α} {cs : List Value} (h : Made A w g n e l) (hb : Below w.heap.size w w1) (hx : Own A w.heap.size w1 cs x) (hln : l.length < n) :
    Made A (putCells w1 g (l.length * A.size) cs) g n e (l ++ [x]) := by
  obtain ⟨cur, fps, hg, hs, _, he, hnd, ho⟩ := h
  obtain ⟨fx, rx, nx, ox⟩ := hx
  have hgl : g < w.heap.size := lt_of_heap hg
  have hcl := A.len rx
  have hm : (l.length + 1) * A.size ≤ n * A.size := Nat.mul_le_mul_right _ hln
  have hm' : (l.length + 1) * A.size = l.length * A.size + A.size := Nat.succ_mul _ _
  obtain ⟨cur', g1, g2, g3, g4⟩ := putCells_row g e cs w1 (l.length * A.size) cur ((hb.block g hgl).trans hg) (by omega)
  have oth : ∀ k, k ≠ g → (putCells w1 g (l.length * A.size) cs).heap[k]? = w1.heap[k]? := fun k hk => putCells_other g cs w1 _ k hk
  refine ⟨cur', fps ++ [fx], g1, by omega, by simp; omega, ⟨by simp [he.1], fun i y hy => ?_⟩, ?_, ?_⟩
  · rcases Nat.lt_or_ge i l.length with hi | hi
    · rw [List.getElem?_append_left hi] at hy
      obtain ⟨f, c, hf, hr, hc⟩ := he.2 i y hy
      have hil : i < fps.length := by rw [he.1]; exact hi
      refine ⟨f, c, by rw [List.getElem?_append_left hil]; exact hf, A.frame hr fun b hbf => ?_, fun j v hv => ?_⟩
      · have hmem : b ∈ fps.flatten := List.mem_flatten.2 ⟨f, List.mem_of_getElem? hf, hbf⟩
        rw [oth b (by have := (ho b hmem).1; omega)]
        exact hb.block b (A.lt hr b hbf)
      · have hj : j < A.size := by rw [← A.len hr]; exact (List.getElem?_eq_some_iff.1 hv).1
        have hi2 : (i + 1) * A.size ≤ l.length * A.size := Nat.mul_le_mul_right _ hi
        have hi3 : (i + 1) * A.size = i * A.size + A.size := Nat.succ_mul _ _
        have h1 := hc j v hv
        rw [cell_of_row w g _ cur e (0, 0) hg] at h1
        rw [cell_of_row _ g _ cur' e (0, 0) g1, g4 _ (by omega)]
        exact h1
    · have hi' : i = l.length := by
        have := (List.getElem?_eq_some_iff.1 hy).1
        simp at this
        omega
      subst hi'
      simp at hy
      subst hy
      refine ⟨fx, cs, by rw [← he.1]; simp, A.frame rx fun b hbf => oth b (by have := (ox b hbf).1; omega), fun j v hv => ?_⟩
      rw [cell_of_row _ g _ cur' e (0, 0) g1, ← g3 j v hv]
      congr 1
      omega
  · rw [List.flatten_append, List.nodup_append]
    refine ⟨hnd, by simpa using nx, fun p hp q hq e => ?_⟩
    have := (ho p hp).2.lt
    have := (ox q (by simpa using hq)).1
    omega
  · intro b hb'
    rw [List.flatten_append, List.mem_append] at hb'
    rcases hb' with hb' | hb'
    · have h1 := ho b hb'
      exact ⟨h1.1, h1.2.frame ((oth b (by omega)).trans (hb.block b h1.2.lt))⟩
    · have h1 := ox b (by simpa using hb')
      exact ⟨by omega, h1.2.frame (oth b (by omega))⟩
theorem Made.own {p : 0 < A.size} (h : Made A w g n e l) (hl : l.length = n) (hn : n ≤ maxLen) {base : Nat} (hb : base ≤ g) : Own (Rp.slice A p) base w [.slice (some ⟨g, 0, none⟩) n n] l := by
  obtain ⟨cur, fps, hg, hs, _, he, hnd, ho⟩ := h
  by_cases hl0 : l = []
  · subst hl0
    refine ⟨[], ⟨_, n, by rw [hl], by omega, hn, .inl ⟨rfl, rfl⟩⟩, List.nodup_nil, fun b hb => by cases hb⟩
  · refine ⟨g :: fps.flatten, ⟨_, n, by rw [hl], by omega, hn, .inr ⟨g, 0, fps, hl0, rfl, rfl, he⟩⟩, List.nodup_cons.2 ⟨fun hm => by have := (ho g hm).1; omega, hnd⟩, fun b hb' => ?_⟩
    rcases List.mem_cons.1 hb' with rfl | hb'
    · exact ⟨hb, cur, e, hg⟩
    · exact ⟨by have := (ho b hb').1; omega, (ho b hb').2⟩
end

/-- Beside the blocks fp nothing that was there has turned. -/
structure Upto (fp : List Nat) (w w' : World) : Prop where
  os : w'.os = w.os
  tape : w'.tape = w.tape
  output : w'.output = w.output
  size : w.heap.size ≤ w'.heap.size
  block : ∀ k, k < w.heap.size → k ∉ fp → w'.heap[k]? = w.heap[k]?
  free : ∀ k ∈ fp, Free w k → Free w' k
section
variable {fp fq : List Nat} {w w1 w2 : World}
theorem Upto.refl (fp : List Nat) (w : World) : Upto fp w w := ⟨rfl, rfl, rfl, Nat.le_refl _, fun _ _ _ => rfl, fun _ _ h => h⟩
theorem Upto.trans (h : Upto fp w w1) (k : Upto fp w1 w2) : Upto fp w w2 :=
  ⟨k.os.trans h.os, k.tape.trans h.tape, k.output.trans h.output, Nat.le_trans h.size k.size, fun i hi hn => (k.block i (Nat.lt_of_lt_of_le hi h.size) hn).trans (h.block i hi hn), fun i hi hf => k.free i hi (h.free i hi hf)⟩
theorem Upto.mono (h : Upto fp w w1) (hs : ∀ b ∈ fp, b ∈ fq) : Upto fq w w1 :=
  ⟨h.os, h.tape, h.output, h.size, fun i hi hn => h.block i hi (fun hm => hn (hs i hm)), fun i _ hf => by
    by_cases hm : i ∈ fp
    · exact h.free i hm hf
    · exact hf.frame (h.block i hf.lt hm)⟩
theorem Upto.of_below {B : Nat} (h : Below B w w1) (hB : w.heap.size ≤ B) : Upto fp w w1 :=
  ⟨h.os, h.tape, h.output, h.size, fun i hi _ => h.block i (by omega), fun i _ hf => hf.frame (h.block i (by have := hf.lt; omega))⟩
theorem Upto.below {B : Nat} (h : Upto fp w w1) (hf : ∀ b ∈ fp, B ≤ b) (hB : B ≤ w.heap.size) : Below B w w1 :=
  ⟨h.os, h.tape, h.output, h.size, fun i hi => h.block i (by omega) (fun hm => by have := hf i hm; omega)⟩
theorem Free.setCell {b : Nat} (h : Free w b) (p : Addr) (v : Value) : Free (w.setCell p v) b := by
  obtain ⟨cs, e, h⟩ := h
  by_cases hp : b = p.block
  · subst hp
    simp [Free, World.setCell, Array.getElem?_modify, h]
  · exact ⟨cs, e, (Below.heap_setCell _ _ _ _ hp).trans h⟩
theorem Upto.setCell (h : Upto fp w w1) {p : Addr} (hp : p.block ∈ fp) (v : Value) : Upto fp w (w1.setCell p v) :=
  h.trans ⟨rfl, rfl, rfl, by simp [World.setCell], fun k _ hk => Below.heap_setCell _ _ _ _ (fun e => hk (e ▸ hp)), fun k _ hf => hf.setCell p v⟩
theorem Upto.cell (h : Upto fp w w1) {b : Nat} (hb : b < w.heap.size) (hn : b ∉ fp) (o : Nat) : w1.cell? ⟨b, o, none⟩ = w.cell? ⟨b, o, none⟩ := cell_frame (h.block b hb hn)
theorem Upto.frozen (h : Upto fp w w1) {b : Nat} (hb : b < w.heap.size) (hn : b ∉ fp) (o : Nat) : w1.frozen? ⟨b, o, none⟩ = w.frozen? ⟨b, o, none⟩ := World.frozen?_of_block (a := ⟨b, o, none⟩) (h.block b hb hn)
theorem Rp.upto {α : Type} {A : Rp α} {cs : List Value} {a : α} {f : List Nat} (hr : A.rep w cs a f) (h : Upto fp w w1) (hd : ∀ b ∈ f, b ∉ fp) : A.rep w1 cs a f :=
  A.frame hr fun b hb => h.block b (A.lt hr b hb) (hd b hb)
theorem rep_split {α β : Type} {A : Rp α} {B : Rp β} {x : α × β} {fp : List Nat} (c1 c2 : List Value) (hl : c1.length = A.size) (h : (Rp.prod A B).rep w (c1 ++ c2) x fp) : ∃ f1 f2, fp = f1 ++ f2 ∧ A.rep w c1 x.1 f1 ∧ B.rep w c2 x.2 f2 := by
  obtain ⟨d1, d2, f1, f2, hc, hf, h1, h2⟩ := h
  have hd := A.len h1
  have : c1 = d1 ∧ c2 = d2 := List.append_inj hc (by omega)
  obtain ⟨rfl, rfl⟩ := this
  exact ⟨f1, f2, hf, h1, h2⟩
theorem rep_pair {α β : Type} {A : Rp α} {B : Rp β} {a : α} {b : β} {f1 f2 : List Nat} {c1 c2 : List Value} (h1 : A.rep w c1 a f1) (h2 : B.rep w c2 b f2) : (Rp.prod A B).rep w (c1 ++ c2) (a, b) (f1 ++ f2) := ⟨c1, c2, f1, f2, rfl, rfl, h1, h2⟩
end
theorem Free.frozen {w : World} {b : Nat} (h : Free w b) (o : Nat) : w.frozen? ⟨b, o, none⟩ = false := by obtain ⟨cs, e, h⟩ := h; exact frozen_of_row w b o cs e h
theorem setCell_out {w : World} {b o p : Nat} (v : Value) (h : o ≠ p) : (w.setCell ⟨b, p, none⟩ v).cell? ⟨b, o, none⟩ = w.cell? ⟨b, o, none⟩ := World.cell?_setCell_other w _ _ v (fun e => h (by injection e with _ e; exact e.symm))
theorem cells_nil {P : Nat → Value → Prop} : ∀ j v, ([] : List Value)[j]? = some v → P j v := fun j v h => by simp at h
theorem cells_cons {P : Nat → Value → Prop} {c : Value} {cs : List Value} (h0 : P 0 c) (h : ∀ j v, cs[j]? = some v → P (j + 1) v) : ∀ j v, (c :: cs)[j]? = some v → P j v := fun j v hv => by
  cases j with
  | zero => simp at hv; subst hv; exact h0
  | succ j => exact h j v (by simpa using hv)
theorem rep_cast {α : Type} {A : Rp α} {w : World} {cs : List Value} {a b : α} {f : List Nat} (h : A.rep w cs a f) (e : a = b) : A.rep w cs b f := e ▸ h
theorem rep_int {w : World} {p q : Int} (f : List Nat) (e : p = q) (h : I64 q) (hf : f = [] := by rfl) : Rp.int.rep w [.int .i64 p] q f := ⟨by rw [e], hf, h⟩
theorem rep_bool {w : World} {p q : Int} (f : List Nat) (e : p = q) (hf : f = [] := by rfl) : Rp.bool.rep w [.bool (p % 3 == 0)] (q % 3 == 0) f := ⟨by rw [e], hf⟩
theorem flat_disj {L : List (List Nat)} (h : L.flatten.Nodup) {i j : Nat} {f g : List Nat} (hf : L[i]? = some f) (hg : L[j]? = some g) (hij : i ≠ j) : ∀ z ∈ g, z ∉ f := by
  have hp := (List.pairwise_flatten.1 h).2
  rw [List.pairwise_iff_getElem] at hp
  obtain ⟨hi, rfl⟩ := List.getElem?_eq_some_iff.1 hf
  obtain ⟨hj, rfl⟩ := List.getElem?_eq_some_iff.1 hg
  intro z hz hzf
  rcases Nat.lt_or_gt_of_ne hij with hlt | hlt
  · exact hp i j hi hj hlt z hzf z hz rfl
  · exact hp j i hj hi hlt z hz z hzf rfl
theorem flat_mem {L : List (List Nat)} {i : Nat} {f : List Nat} (hf : L[i]? = some f) : ∀ z ∈ f, z ∈ L.flatten := fun _ hz => List.mem_flatten.2 ⟨f, List.mem_of_getElem? hf, hz⟩
/-- One element is written anew. -/
theorem Elems.update {α : Type} {A : Rp α} {w w' : World} {b off i : Nat} {l : List α} {fps : List (List Nat)} {x' : α} {cs' : List Value} {f : List Nat} (he : Elems A w b off l fps) (hnd : (b :: fps.flatten).Nodup) (hf : fps[i]? = some f)
    (hr : A.rep w' cs' x' f) (hc : ∀ j v, cs'[j]? = some v → w'.cell? ⟨b, off + i * A.size + j, none⟩ = some v)
    (hoth : ∀ k, k < w.heap.size → k ≠ b → k ∉ f → w'.heap[k]? = w.heap[k]?)
    (hcell : ∀ o, o < off + i * A.size ∨ off + (i + 1) * A.size ≤ o → w'.cell? ⟨b, o, none⟩ = w.cell? ⟨b, o, none⟩) : Elems A w' b off (l.set i x') fps := by
  refine ⟨by simp [he.1], fun e y hy => ?_⟩
  by_cases hei : i = e
  · subst hei
    have hlt := (List.getElem?_eq_some_iff.1 hy).1
    rw [List.getElem?_set_self (by simpa using hlt)] at hy
    injection hy with hy
    subst hy
    exact ⟨f, cs', hf, hr, hc⟩
  · rw [List.getElem?_set_ne hei] at hy
    obtain ⟨g, cs, hg, hrg, hcg⟩ := he.2 e y hy
    rw [List.nodup_cons] at hnd
    refine ⟨g, cs, hg, A.frame hrg fun z hz => hoth z (A.lt hrg z hz) (fun h => hnd.1 (h ▸ flat_mem hg z hz)) (flat_disj hnd.2 hf hg hei z hz), fun j v hv => ?_⟩
    rw [hcell]
    · exact hcg j v hv
    · have hj : j < A.size := by rw [← A.len hrg]; exact (List.getElem?_eq_some_iff.1 hv).1
      rcases Nat.lt_or_gt_of_ne hei with hlt | hlt
      · have := Nat.mul_le_mul_right A.size (show i + 1 ≤ e from hlt)
        omega
      · have h1 := Nat.mul_le_mul_right A.size (show e + 1 ≤ i from hlt)
        rw [Nat.succ_mul] at h1
        omega
def MarkPost {α : Type} (A : Rp α) (cs : List Value) (a : α) (fp : List Nat) (k : Int) (w : World) : Value → World → Prop := fun v w' => v = .int .i64 k ∧ A.rep w' cs a fp ∧ Upto fp w w'
def HeldPost (k : Int) (w : World) : Value → World → Prop := fun v w' => v = .int .i64 k ∧ Below w.heap.size w w'
theorem nodup_app {α : Type} {a b : List α} (h : (a ++ b).Nodup) : a.Nodup ∧ b.Nodup ∧ (∀ x ∈ a, x ∉ b) ∧ ∀ x ∈ b, x ∉ a := by
  rw [List.nodup_append] at h
  exact ⟨h.1, h.2.1, fun x hx hy => h.2.2 x hx x hy rfl, fun x hx hy => h.2.2 x hy x hx rfl⟩

/-- What a size count leaves. -/
def szr (left : Int) (t : Nat) : Int := if (t : Int) ≤ left then left - t else -1
def SzPost (left : Int) (t : Nat) (w : World) : Value → World → Prop := fun v w' => v = .int .i64 (szr left t) ∧ Below w.heap.size w w'
theorem szr_lo (left : Int) (t : Nat) (h : 0 ≤ left) : -1 ≤ szr left t ∧ szr left t ≤ left := by unfold szr; split <;> omega
theorem szr_add (left : Int) (a b : Nat) (h : 0 ≤ szr left a) : szr (szr left a) b = szr left (a + b) := by
  unfold szr at *
  split at h
  · rename_i h1
    simp only [h1, if_true]
    split <;> split <;> omega
  · omega
theorem szr_fail {left : Int} {a b : Nat} (h : szr left a < 0) (hab : a ≤ b) : -1 = szr left b := by
  unfold szr at *
  split at h
  · omega
  · rw [if_neg (by omega)]
theorem szr_lt {left : Int} {t : Nat} (h : left < t) : -1 = szr left t := by unfold szr; rw [if_neg (by omega)]
theorem szr_ge {left : Int} {t : Nat} (h : (t : Int) ≤ left) : left - t = szr left t := by unfold szr; rw [if_pos h]
theorem szr_ok {left : Int} {t : Nat} (h : 0 ≤ szr left t) : (t : Int) ≤ left ∧ szr left t = left - t := by
  unfold szr at *
  split at h
  · rw [if_pos (by omega)]; omega
  · omega
/-- A result of several cells, of one cell, in memory of the call's own; a test of equality. -/
def OwnPost {α : Type} (A : Rp α) (a : α) (w : World) : Value → World → Prop := fun v w' => (∃ cs, v = .agg cs.toArray ∧ Own A w.heap.size w' cs a) ∧ Below w.heap.size w w'
def Own1Post {α : Type} (A : Rp α) (a : α) (w : World) : Value → World → Prop := fun v w' => Own A w.heap.size w' [v] a ∧ Below w.heap.size w w'
noncomputable def eqb {α : Type} (a b : α) : Bool := @decide (a = b) (Classical.propDecidable _)
theorem eqb_true {α : Type} {a b : α} (h : a = b) : eqb a b = true := @decide_eq_true _ (Classical.propDecidable _) h
theorem eqb_false {α : Type} {a b : α} (h : ¬ a = b) : eqb a b = false := @decide_eq_false _ (Classical.propDecidable _) h
def EqPost {α : Type} (a b : α) (w : World) : Value → World → Prop := fun v w' => v = .bool (eqb a b) ∧ Below w.heap.size w w'

/-- What a contract says at the end of a call. -/
def Post (R : Value → World → Prop) (e : Ending) (w' : World) : Prop := ∃ v, e = .returned v ∧ R v w'
end Go.Proofs.Ytjkbecgenjhaaaa
