/-
  A placement behind a step. Printed by gen6.py.
-/
import Derived.Test.YtjkbecgenjhaaaaHead
namespace Go.Proofs.Ytjkbecgenjhaaaa
open Go.RowKit
def stepV (h t : Int) (p q : Array Value) : Array Value := if t = 0 then #[Value.int .i64 h] ++ q else #[Value.int .i64 (if t = 1 ∨ t = -1 then nextHead h t else h)] ++ p
def StepPost (h t : Int) (p q : Array Value) (w : World) : Value → World → Prop := fun v w' => v = .agg (stepV h t p q) ∧ Below w.heap.size w w'

set_option maxRecDepth 100000 in
set_option maxHeartbeats 400000 in
theorem stepped_any (h t : Int) (p0 p1 p2 p3 p4 p5 q0 q1 q2 q3 q4 q5 : Value) (x y : DPoint) (w : World) (hx : Has RPoint w [p0, p1, p2, p3, p4, p5] x) (hy : Has RPoint w [q0, q1, q2, q3, q4, q5] y) :
    Calls Try.prog 71 #[.agg #[.int .i64 h, p0, p1, p2, p3, p4, p5], .agg #[.int .i64 t, q0, q1, q2, q3, q4, q5]] w (Post (StepPost h t #[p0, p1, p2, p3, p4, p5] #[q0, q1, q2, q3, q4, q5] w)) := by
  have hp0 := hx.one 0 p0 rfl
  have hq0 := hy.one 0 q0 rfl
  have hp1 := hx.one 1 p1 rfl
  have hq1 := hy.one 1 q1 rfl
  have hp2 := hx.one 2 p2 rfl
  have hq2 := hy.one 2 q2 rfl
  have hp3 := hx.one 3 p3 rfl
  have hq3 := hy.one 3 q3 rfl
  have hp4 := hx.one 4 p4 rfl
  have hq4 := hy.one 4 q4 rfl
  have hp5 := hx.one 5 p5 rfl
  have hq5 := hy.one 5 q5 rfl
  clear hx hy
  have hb0 := ((((Below.refl w.heap.size w).alloc (by simp <;> omega) (Obj.cells #[.int .i64 h, p0, p1, p2, p3, p4, p5] 55)).alloc (by simp <;> omega) (Obj.cells #[.int .i64 t, q0, q1, q2, q3, q4, q5] 80)).alloc (by simp <;> omega) (Obj.cells #[.int .i64 0, .bool false, .slice none 0 0, .slice none 0 0, .bool false, .slice none 0 0, .slice none 0 0] 55))
  by_cases h0 : t = 0
  · subst h0
    go_enter Try.func71, Try.ntmps71
    go_wp2
    refine bodyPost_ret (v := .agg #[.int .i64 h, q0, q1, q2, q3, q4, q5]) (by simp [results, go_sem]) rfl ⟨_, rfl, by simp [stepV], ?_⟩
    repeat (first | with_reducible exact Below.refl _ _ | with_reducible refine Below.drew ?_ | with_reducible refine Below.setCell ?_ (by simp <;> omega) _ | with_reducible refine Below.alloc ?_ (by simp <;> omega) _)
  have hn0 : (t == 0) = false := by simp [h0]
  have callNext : ∀ w1, Below w.heap.size w w1 → Calls Try.prog 99 #[.int .i64 h, .int .i64 t] w1 (Post (IntPost (nextHead h t) w1)) := fun w1 _ => implNextHeading_any h t w1
  by_cases h1 : t = 1
  · subst h1
    go_enter Try.func71, Try.ntmps71
    go_wp2_with fail
    refine (callNext _ hb0).mono ?_
    rintro e w1 ⟨v, rfl, rfl, hb1⟩
    obtain ⟨hcr, hfr⟩ := bcell hb1
    have hz := hb1.size
    simp at hz
    have hself : (w1.setCell ⟨w.heap.size, 0, none⟩ (.int .i64 (nextHead h 1))).cell? ⟨w.heap.size, 0, none⟩ = some (.int .i64 (nextHead h 1)) := World.cell?_setCell_same' _ _ _ (by rw [hcr w.heap.size 0 (by simp <;> omega)]; simp [go_sem])
    go_wp2
    refine bodyPost_ret (v := .agg #[.int .i64 (nextHead h 1), p0, p1, p2, p3, p4, p5]) (by simp [results, go_sem, hcr, hself]) rfl ⟨_, rfl, by simp [stepV], ?_⟩
    have hbu := Below.up (hb0) (hb1.mono (by simp)) (by simp <;> omega)
    repeat (first | with_reducible exact hbu | with_reducible refine Below.setCell ?_ (by simp <;> omega) _)
  have hn1 : (t == 1) = false := by simp [h1]
  by_cases h2 : t = -1
  · subst h2
    go_enter Try.func71, Try.ntmps71
    go_wp2_with fail
    refine (callNext _ hb0).mono ?_
    rintro e w1 ⟨v, rfl, rfl, hb1⟩
    obtain ⟨hcr, hfr⟩ := bcell hb1
    have hz := hb1.size
    simp at hz
    have hself : (w1.setCell ⟨w.heap.size, 0, none⟩ (.int .i64 (nextHead h (-1)))).cell? ⟨w.heap.size, 0, none⟩ = some (.int .i64 (nextHead h (-1))) := World.cell?_setCell_same' _ _ _ (by rw [hcr w.heap.size 0 (by simp <;> omega)]; simp [go_sem])
    go_wp2
    refine bodyPost_ret (v := .agg #[.int .i64 (nextHead h (-1)), p0, p1, p2, p3, p4, p5]) (by simp [results, go_sem, hcr, hself]) rfl ⟨_, rfl, by simp [stepV], ?_⟩
    have hbu := Below.up (hb0) (hb1.mono (by simp)) (by simp <;> omega)
    repeat (first | with_reducible exact hbu | with_reducible refine Below.setCell ?_ (by simp <;> omega) _)
  have hn2 : (t == -1) = false := by simp [h2]
  go_enter Try.func71, Try.ntmps71
  go_wp2
  refine bodyPost_ret (v := .agg #[.int .i64 h, p0, p1, p2, p3, p4, p5]) (by simp [results, go_sem]) rfl ⟨_, rfl, by simp [stepV, h0, h1, h2], ?_⟩
  repeat (first | with_reducible exact Below.refl _ _ | with_reducible refine Below.drew ?_ | with_reducible refine Below.setCell ?_ (by simp <;> omega) _ | with_reducible refine Below.alloc ?_ (by simp <;> omega) _)

set_option maxRecDepth 100000 in
set_option maxHeartbeats 400000 in
theorem l22After_any (h t : Int) (p0 p1 p2 p3 p4 p5 q0 q1 q2 q3 q4 q5 : Value) (x y : DPoint) (w : World) (hx : Has RPoint w [p0, p1, p2, p3, p4, p5] x) (hy : Has RPoint w [q0, q1, q2, q3, q4, q5] y) :
    Calls Try.prog 70 #[.agg #[.int .i64 h, p0, p1, p2, p3, p4, p5], .agg #[.int .i64 t, q0, q1, q2, q3, q4, q5]] w (Post (StepPost h t #[p0, p1, p2, p3, p4, p5] #[q0, q1, q2, q3, q4, q5] w)) := by
  have hp0 := hx.one 0 p0 rfl
  have hq0 := hy.one 0 q0 rfl
  have hp1 := hx.one 1 p1 rfl
  have hq1 := hy.one 1 q1 rfl
  have hp2 := hx.one 2 p2 rfl
  have hq2 := hy.one 2 q2 rfl
  have hp3 := hx.one 3 p3 rfl
  have hq3 := hy.one 3 q3 rfl
  have hp4 := hx.one 4 p4 rfl
  have hq4 := hy.one 4 q4 rfl
  have hp5 := hx.one 5 p5 rfl
  have hq5 := hy.one 5 q5 rfl
  clear hx hy
  have hb0 := ((((Below.refl w.heap.size w).alloc (by simp <;> omega) (Obj.cells #[.int .i64 h, p0, p1, p2, p3, p4, p5] 55)).alloc (by simp <;> omega) (Obj.cells #[.int .i64 t, q0, q1, q2, q3, q4, q5] 80)).alloc (by simp <;> omega) (Obj.cells #[.int .i64 0, .bool false, .slice none 0 0, .slice none 0 0, .bool false, .slice none 0 0, .slice none 0 0] 55))
  by_cases h0 : t = 0
  · subst h0
    go_enter Try.func70, Try.ntmps70
    go_wp2
    refine bodyPost_ret (v := .agg #[.int .i64 h, q0, q1, q2, q3, q4, q5]) (by simp [results, go_sem]) rfl ⟨_, rfl, by simp [stepV], ?_⟩
    repeat (first | with_reducible exact Below.refl _ _ | with_reducible refine Below.drew ?_ | with_reducible refine Below.setCell ?_ (by simp <;> omega) _ | with_reducible refine Below.alloc ?_ (by simp <;> omega) _)
  have hn0 : (t == 0) = false := by simp [h0]
  have callNext : ∀ w1, Below w.heap.size w w1 → Calls Try.prog 98 #[.int .i64 h, .int .i64 t] w1 (Post (IntPost (nextHead h t) w1)) := fun w1 _ => specNextHeading_any h t w1
  by_cases h1 : t = 1
  · subst h1
    go_enter Try.func70, Try.ntmps70
    go_wp2_with fail
    refine (callNext _ hb0).mono ?_
    rintro e w1 ⟨v, rfl, rfl, hb1⟩
    obtain ⟨hcr, hfr⟩ := bcell hb1
    have hz := hb1.size
    simp at hz
    have hself : (w1.setCell ⟨w.heap.size, 0, none⟩ (.int .i64 (nextHead h 1))).cell? ⟨w.heap.size, 0, none⟩ = some (.int .i64 (nextHead h 1)) := World.cell?_setCell_same' _ _ _ (by rw [hcr w.heap.size 0 (by simp <;> omega)]; simp [go_sem])
    go_wp2
    refine bodyPost_ret (v := .agg #[.int .i64 (nextHead h 1), p0, p1, p2, p3, p4, p5]) (by simp [results, go_sem, hcr, hself]) rfl ⟨_, rfl, by simp [stepV], ?_⟩
    have hbu := Below.up (hb0) (hb1.mono (by simp)) (by simp <;> omega)
    repeat (first | with_reducible exact hbu | with_reducible refine Below.setCell ?_ (by simp <;> omega) _)
  have hn1 : (t == 1) = false := by simp [h1]
  by_cases h2 : t = -1
  · subst h2
    go_enter Try.func70, Try.ntmps70
    go_wp2_with fail
    refine (callNext _ hb0).mono ?_
    rintro e w1 ⟨v, rfl, rfl, hb1⟩
    obtain ⟨hcr, hfr⟩ := bcell hb1
    have hz := hb1.size
    simp at hz
    have hself : (w1.setCell ⟨w.heap.size, 0, none⟩ (.int .i64 (nextHead h (-1)))).cell? ⟨w.heap.size, 0, none⟩ = some (.int .i64 (nextHead h (-1))) := World.cell?_setCell_same' _ _ _ (by rw [hcr w.heap.size 0 (by simp <;> omega)]; simp [go_sem])
    go_wp2
    refine bodyPost_ret (v := .agg #[.int .i64 (nextHead h (-1)), p0, p1, p2, p3, p4, p5]) (by simp [results, go_sem, hcr, hself]) rfl ⟨_, rfl, by simp [stepV], ?_⟩
    have hbu := Below.up (hb0) (hb1.mono (by simp)) (by simp <;> omega)
    repeat (first | with_reducible exact hbu | with_reducible refine Below.setCell ?_ (by simp <;> omega) _)
  have hn2 : (t == -1) = false := by simp [h2]
  go_enter Try.func70, Try.ntmps70
  go_wp2
  refine bodyPost_ret (v := .agg #[.int .i64 h, p0, p1, p2, p3, p4, p5]) (by simp [results, go_sem]) rfl ⟨_, rfl, by simp [stepV, h0, h1, h2], ?_⟩
  repeat (first | with_reducible exact Below.refl _ _ | with_reducible refine Below.drew ?_ | with_reducible refine Below.setCell ?_ (by simp <;> omega) _ | with_reducible refine Below.alloc ?_ (by simp <;> omega) _)
end Go.Proofs.Ytjkbecgenjhaaaa
