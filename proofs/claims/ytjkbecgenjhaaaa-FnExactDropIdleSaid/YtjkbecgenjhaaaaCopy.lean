/-
  The reference's copies of fractions and points.
-/
import Derived.Test.YtjkbecgenjhaaaaOwn
import Derived.Deep.RegionLaw
namespace Go.Proofs.Ytjkbecgenjhaaaa
open Go.RowKit

theorem heap_new {w : World} {o : Obj} {g : Nat} (h : g = w.heap.size) : (w.alloc o).heap[g]? = some o := by subst h; show (w.heap.push o)[w.heap.size]? = some o; simp
theorem heap_old {w : World} {o x : Obj} {g : Nat} (h : g < w.heap.size) (hx : w.heap[g]? = some x) : (w.alloc o).heap[g]? = some x := by
  rw [← hx]
  show (w.heap.push o)[g]? = w.heap[g]?
  rw [Array.getElem?_push, if_neg (Nat.ne_of_lt h)]
theorem heap_drew' {w : World} {o : Obj} {g : Nat} (h : w.heap[g]? = some o) : w.drew.heap[g]? = some o := h

/-- The value's memory lies from block 'base' on. -/
def New {α : Type} (A : Rp α) (base : Nat) (w : World) (cs : List Value) (a : α) : Prop := ∃ fp, A.rep w cs a fp ∧ ∀ b ∈ fp, base ≤ b
theorem Own.new {α : Type} {A : Rp α} {base : Nat} {w : World} {cs : List Value} {a : α} (h : Own A base w cs a) : New A base w cs a := let ⟨fp, hr, _, ho⟩ := h; ⟨fp, hr, fun b hb => (ho b hb).1⟩
theorem New.has {α : Type} {A : Rp α} {base : Nat} {w : World} {cs : List Value} {a : α} (h : New A base w cs a) : Has A w cs a := let ⟨fp, hr, _⟩ := h; ⟨fp, hr⟩
theorem New.below {α : Type} {A : Rp α} {base : Nat} {w w' : World} {cs : List Value} {a : α} (h : New A base w cs a) (hb : Below w.heap.size w w') : New A base w' cs a :=
  let ⟨fp, hr, ho⟩ := h; ⟨fp, A.frame hr fun b hb' => hb.block b (A.lt hr b hb'), ho⟩
theorem New.mono {α : Type} {A : Rp α} {base base' : Nat} {w : World} {cs : List Value} {a : α} (h : New A base w cs a) (hb : base' ≤ base) : New A base' w cs a := let ⟨fp, hr, ho⟩ := h; ⟨fp, hr, fun b hb' => Nat.le_trans hb (ho b hb')⟩
theorem New.frame {α : Type} {A : Rp α} {base : Nat} {w w' : World} {cs : List Value} {a : α} (h : New A base w cs a) (hf : ∀ b, base ≤ b → b < w.heap.size → w'.heap[b]? = w.heap[b]?) : New A base w' cs a :=
  let ⟨fp, hr, ho⟩ := h; ⟨fp, A.frame hr fun b hb' => hf b (ho b hb') (A.lt hr b hb'), ho⟩
theorem New.setCell {α : Type} {A : Rp α} {base : Nat} {w : World} {cs : List Value} {a : α} (h : New A base w cs a) {p : Addr} (hp : p.block < base) (v : Value) : New A base (w.setCell p v) cs a :=
  h.frame fun b h1 _ => Below.heap_setCell _ _ _ _ (by omega)
theorem New.pair {α β : Type} {A : Rp α} {B : Rp β} {base : Nat} {w : World} {a : α} {b : β} {cs1 cs2 : List Value} (h1 : New A base w cs1 a) (h2 : New B base w cs2 b) : New (Rp.prod A B) base w (cs1 ++ cs2) (a, b) :=
  let ⟨f1, r1, o1⟩ := h1; let ⟨f2, r2, o2⟩ := h2; ⟨f1 ++ f2, rep_pair r1 r2, fun b hb => (List.mem_append.1 hb).elim (o1 b) (o2 b)⟩
theorem New.bool (base : Nat) (w : World) (b : Bool) : New Rp.bool base w [.bool b] b := ⟨[], ⟨rfl, rfl⟩, fun _ h => by cases h⟩
theorem New.int (base : Nat) (w : World) {n : Int} (h : I64 n) : New Rp.int base w [.int .i64 n] n := ⟨[], ⟨rfl, rfl, h⟩, fun _ h => by cases h⟩
def NewPost {α : Type} (A : Rp α) (a : α) (w : World) : Value → World → Prop := fun v w' => (∃ cs, v = .agg cs.toArray ∧ New A w.heap.size w' cs a) ∧ Below w.heap.size w w'
theorem Has.pair {α β : Type} {A : Rp α} {B : Rp β} {w : World} {a : α} {b : β} {cs1 cs2 : List Value} (h1 : Has A w cs1 a) (h2 : Has B w cs2 b) : Has (Rp.prod A B) w (cs1 ++ cs2) (a, b) := let ⟨f1, r1⟩ := h1; let ⟨f2, r2⟩ := h2; ⟨f1 ++ f2, rep_pair r1 r2⟩
theorem Has.ofBool (w : World) (b : Bool) : Has Rp.bool w [.bool b] b := ⟨[], rfl, rfl⟩
theorem Has.ofInt (w : World) {n : Int} (h : I64 n) : Has Rp.int w [.int .i64 n] n := ⟨[], rfl, rfl, h⟩
theorem OwnPost.newPost {α : Type} {A : Rp α} {a : α} {w w' : World} {v : Value} (h : OwnPost A a w v w') : NewPost A a w v w' := let ⟨⟨cs, h1, h2⟩, h3⟩ := h; ⟨⟨cs, h1, h2.new⟩, h3⟩

set_option maxRecDepth 100000 in
set_option maxHeartbeats 400000 in
theorem l04Copy_any (c0 c1 c2 : Value) (x : DRat) (w : World) (hx : Has RRat w [c0, c1, c2] x) (hs1 : x.1.2.length ≤ 1099511627776) (hs2 : x.2.length ≤ 1099511627776) :
    Calls Try.prog 79 #[.agg #[c0, c1, c2]] w (Post (NewPost RRat x w)) := by
  obtain ⟨i0, hi, hz0, hz1, hz2⟩ := info_parts infoI
  obtain ⟨hx0, hx1⟩ := hx.split [c0, c1] [c2] rfl
  obtain ⟨hx00, hx01⟩ := hx0.split [c0] [c1] rfl
  obtain rfl := hx00.bool
  have HX1 := Lib.hid hx01; have HX2 := Lib.hid hx1
  clear hx hx0 hx1 hx00 hx01
  have HS1 := Lib.hid hs1; have HS2 := Lib.hid hs2; clear hs1 hs2
  go_enter Try.func79, Try.ntmps79
  go_wp2
  go_region_held3 (fun w' => w'.cell? ⟨w.heap.size, 0, none⟩ = some (.bool x.1.1) ∧ w'.cell? ⟨w.heap.size, 1, none⟩ = some c1 ∧ w'.cell? ⟨w.heap.size, 2, none⟩ = some c2)
    (first | go_keep | assumption)
    (first
      | (refine step_copy_ints (P := Try.prog) (b0 := w.heap.size) (B := w.heap.size + 1 + 1) (v0 := .bool x.1.1) (v1 := c1) (v2 := c2) (by rfl) (.tmp 6) (.tmp 9) _ (by rfl) 3 i0 Try.underlying30 hi hz0 hz1 hz2 (by rfl) _ (by rfl) ?_ ?_ ?_ ?_ HX1.out HS1.out (by assumption) ?_ ?_
         · (repeat (first | with_reducible refine heap_drew' ?_ | (with_reducible refine heap_new ?_; (first | omega | (simp; done) | (simp <;> omega)); done) | (with_reducible refine heap_old ?_ ?_; (· (first | omega | (simp; done) | (simp <;> omega)))) | (refine (hgr2.block _ ?_ ?_).trans ?_; (· (first | omega | (simp; done) | (simp <;> omega))); (· (first | omega | (simp; done) | (simp <;> omega)))) | fail))
         · (first | omega | (simp; done) | (simp <;> omega))
         · (first | omega | (simp; done) | (simp <;> omega))
         · (repeat (first | with_reducible exact hbw2 | refine Below.drew ?_ | exact Below.refl _ _ | (refine Below.alloc ?_ (by first | omega | (simp; done) | (simp <;> omega)) _)))
         · (first | omega | (simp; done) | (simp <;> omega))
         intro ad1 cap1 w1 hg1 hgr1 hat1 hbw1 hzz1 hS1 hcr1 hfr1
         first | simp at hzz1 | skip
         have hl01 : w.heap.size < w1.heap.size := by omega
         have hl11 : w.heap.size + 1 < w1.heap.size := by omega
         first
           | (have hlx : w2.heap.size ≤ w1.heap.size := by omega
              have hgn : Grow Rp.int true (w.heap.size + 1 + 1) w1 3 (.slice ad2 _ cap2) _ := GrowInt.keep (Grow.below hg2 (by repeat (first | refine Below.drew ?_ | exact Below.refl _ _ | (refine Below.alloc ?_ (by first | omega | (simp; done) | (simp <;> omega)) _)))) hgr1 (fun k hk => by have h1 := hat2 k hk; intro e; injection e with e; first | omega | (simp at h1; omega) | (simp at h1 e; omega))
              clear hg2)
           | skip)
      | (refine step_copy_ints (P := Try.prog) (b0 := w.heap.size) (B := w.heap.size + 1 + 1) (v0 := .bool x.1.1) (v1 := c1) (v2 := c2) (by rfl) (.tmp 12) (.tmp 14) _ (by rfl) 3 i0 Try.underlying30 hi hz0 hz1 hz2 (by rfl) _ (by rfl) ?_ ?_ ?_ ?_ HX2.out HS2.out (by assumption) ?_ ?_
         · (repeat (first | with_reducible refine heap_drew' ?_ | (with_reducible refine heap_new ?_; (first | omega | (simp; done) | (simp <;> omega)); done) | (with_reducible refine heap_old ?_ ?_; (· (first | omega | (simp; done) | (simp <;> omega)))) | (refine (hgr1.block _ ?_ ?_).trans ?_; (· (first | omega | (simp; done) | (simp <;> omega))); (· (first | omega | (simp; done) | (simp <;> omega)))) | fail))
         · (first | omega | (simp; done) | (simp <;> omega))
         · (first | omega | (simp; done) | (simp <;> omega))
         · (repeat (first | with_reducible exact hbw1 | refine Below.drew ?_ | exact Below.refl _ _ | (refine Below.alloc ?_ (by first | omega | (simp; done) | (simp <;> omega)) _)))
         · (first | omega | (simp; done) | (simp <;> omega))
         intro ad2 cap2 w2 hg2 hgr2 hat2 hbw2 hzz2 hS2 hcr2 hfr2
         first | simp at hzz2 | skip
         have hl02 : w.heap.size < w2.heap.size := by omega
         have hl12 : w.heap.size + 1 < w2.heap.size := by omega
         first
           | (have hlx : w1.heap.size ≤ w2.heap.size := by omega
              have hgn : Grow Rp.int true (w.heap.size + 1 + 1) w2 3 (.slice ad1 _ cap1) _ := GrowInt.keep (Grow.below hg1 (by repeat (first | refine Below.drew ?_ | exact Below.refl _ _ | (refine Below.alloc ?_ (by first | omega | (simp; done) | (simp <;> omega)) _)))) hgr2 (fun k hk => by have h1 := hat1 k hk; intro e; injection e with e; first | omega | (simp at h1; omega) | (simp at h1 e; omega))
              clear hg1)
           | skip)
)
  all_goals (
    rename_i hh
    clear hh
    go_wp2
    first
      | (have G1 := Lib.hid (Own.new (((((hgn.own (p := Nat.one_pos)).inn.setCell (p := ⟨w.heap.size + 1, 0, none⟩) (.inl (by simp)) (.bool x.1.1)).setCell (p := ⟨w.heap.size + 1, 1, none⟩) (.inl (by simp)) (.slice ad1 x.1.2.length cap1)).setCell (p := ⟨w.heap.size + 1, 2, none⟩) (.inl (by simp)) (.slice ad2 x.2.length cap2)).own (lo2 := w.heap.size) (by omega)))
         have G2 := Lib.hid (Own.new (((((hg2.own (p := Nat.one_pos)).inn.setCell (p := ⟨w.heap.size + 1, 0, none⟩) (.inl (by simp)) (.bool x.1.1)).setCell (p := ⟨w.heap.size + 1, 1, none⟩) (.inl (by simp)) (.slice ad1 x.1.2.length cap1)).setCell (p := ⟨w.heap.size + 1, 2, none⟩) (.inl (by simp)) (.slice ad2 x.2.length cap2)).own (lo2 := w.heap.size) (by omega)))
         have HB := Lib.hid hbw2)
      | (have G1 := Lib.hid (Own.new (((((hg1.own (p := Nat.one_pos)).inn.setCell (p := ⟨w.heap.size + 1, 0, none⟩) (.inl (by simp)) (.bool x.1.1)).setCell (p := ⟨w.heap.size + 1, 1, none⟩) (.inl (by simp)) (.slice ad1 x.1.2.length cap1)).setCell (p := ⟨w.heap.size + 1, 2, none⟩) (.inl (by simp)) (.slice ad2 x.2.length cap2)).own (lo2 := w.heap.size) (by omega)))
         have G2 := Lib.hid (Own.new (((((hgn.own (p := Nat.one_pos)).inn.setCell (p := ⟨w.heap.size + 1, 0, none⟩) (.inl (by simp)) (.bool x.1.1)).setCell (p := ⟨w.heap.size + 1, 1, none⟩) (.inl (by simp)) (.slice ad1 x.1.2.length cap1)).setCell (p := ⟨w.heap.size + 1, 2, none⟩) (.inl (by simp)) (.slice ad2 x.2.length cap2)).own (lo2 := w.heap.size) (by omega)))
         have HB := Lib.hid hbw1)
    refine bodyPost_ret (v := .agg #[.bool x.1.1, .slice ad1 x.1.2.length cap1, .slice ad2 x.2.length cap2]) (by first | (simp [results, go_sem, hcr2, hfr2, hcr1, hfr1, hl11, hl12]; done) | trace_state) rfl ⟨_, rfl, ⟨[.bool x.1.1, .slice ad1 x.1.2.length cap1, .slice ad2 x.2.length cap2], rfl, ?_⟩, ?_⟩
    · exact New.pair (cs1 := [.bool x.1.1, .slice ad1 x.1.2.length cap1]) (cs2 := [.slice ad2 x.2.length cap2]) (New.pair (cs1 := [.bool x.1.1]) (cs2 := [.slice ad1 x.1.2.length cap1]) (New.bool _ _ _) G1.out) G2.out
    · exact ((HB.out.setCell (p := ⟨w.heap.size + 1, 0, none⟩) (by simp) _).setCell (p := ⟨w.heap.size + 1, 1, none⟩) (by simp) _).setCell (p := ⟨w.heap.size + 1, 2, none⟩) (by simp) _)
end Go.Proofs.Ytjkbecgenjhaaaa
