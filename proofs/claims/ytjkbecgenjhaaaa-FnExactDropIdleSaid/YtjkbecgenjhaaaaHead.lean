/-
  Ranges, headings, and a placement behind a step.
-/
import Derived.Test.YtjkbecgenjhaaaaOwnPt
import Derived.Test.YtjkbecgenjhaaaaSameSteps
import Derived.Test.YtjkbecgenjhaaaaCount
namespace Go.Proofs.Ytjkbecgenjhaaaa
open Go.RowKit
def BoolPost (b : Bool) (w : World) : Value → World → Prop := fun v w' => v = .bool b ∧ Below w.heap.size w w'
def inb (n lo hi : Int) : Bool := decide (lo ≤ n) && decide (n ≤ hi)
set_option maxRecDepth 100000 in
set_option maxHeartbeats 400000 in
theorem within_any (n lo hi : Int) (w : World) :
    Calls Try.prog 95 #[.int .i64 n, .int .i64 lo, .int .i64 hi] w (Post (BoolPost (inb n lo hi) w)) := by
  by_cases h1 : lo ≤ n
  · by_cases h2 : n ≤ hi
    · go_enter Try.func95, Try.ntmps95
      go_wp2
      go_ret
      exact ⟨_, rfl, congrArg Value.bool (by simp [inb, h1, h2]), Below.refl _ _⟩
    · go_enter Try.func95, Try.ntmps95
      go_wp2
      go_ret
      exact ⟨_, rfl, congrArg Value.bool (by simp [inb, h1, h2]), Below.refl _ _⟩
  · go_enter Try.func95, Try.ntmps95
    go_wp2
    go_ret
    exact ⟨_, rfl, congrArg Value.bool (by simp [inb]; omega), Below.refl _ _⟩
set_option maxRecDepth 100000 in
set_option maxHeartbeats 400000 in
theorem l01In_any (n lo hi : Int) (w : World) :
    Calls Try.prog 60 #[.int .i64 n, .int .i64 lo, .int .i64 hi] w (Post (BoolPost (inb n lo hi) w)) := by
  by_cases h1 : lo ≤ n
  · by_cases h2 : n ≤ hi
    · go_enter Try.func60, Try.ntmps60
      go_wp2
      go_ret
      exact ⟨_, rfl, congrArg Value.bool (by simp [inb, h1, h2]), Below.refl _ _⟩
    · go_enter Try.func60, Try.ntmps60
      go_wp2
      go_ret
      exact ⟨_, rfl, congrArg Value.bool (by simp [inb, h1, h2]), Below.refl _ _⟩
  · go_enter Try.func60, Try.ntmps60
    go_wp2
    go_ret
    exact ⟨_, rfl, congrArg Value.bool (by simp [inb]; omega), Below.refl _ _⟩
set_option maxRecDepth 100000 in
set_option maxHeartbeats 400000 in
theorem isHeading_any (n : Int) (w : World) :
    Calls Try.prog 134 #[.int .i64 n] w (Post (BoolPost (inb n 0 3) w)) := by
  go_enter Try.func134, Try.ntmps134
  go_wp2_with fail
  refine (within_any _ _ _ _).mono ?_
  rintro e w1 ⟨v, rfl, rfl, hb1⟩
  go_wp2
  go_ret
  exact ⟨_, rfl, rfl, hb1⟩
/-- The heading behind a turn. -/
def nextHead (h t : Int) : Int := if inb h 0 3 = true ∧ (t = 1 ∨ t = -1) then (h + t + 4) % 4 else -1
theorem nextHead_i64 (h t : Int) : I64 (nextHead h t) := by
  unfold nextHead
  split
  · have h1 := Int.emod_nonneg (h + t + 4) (b := 4) (by omega)
    have h2 := Int.emod_lt_of_pos (h + t + 4) (b := 4) (by omega)
    constructor <;> omega
  · constructor <;> omega
set_option maxRecDepth 100000 in
set_option maxHeartbeats 400000 in
theorem implNextHeading_any (h t : Int) (w : World) :
    Calls Try.prog 99 #[.int .i64 h, .int .i64 t] w (Post (IntPost (nextHead h t) w)) := by
  by_cases hh : inb h 0 3 = true
  rotate_left
  · go_enter Try.func99, Try.ntmps99
    go_wp2_with fail
    refine (isHeading_any _ _).mono ?_
    rintro e w1 ⟨v, rfl, rfl, hb1⟩
    have hh' : inb h 0 3 = false := by simpa using hh
    rw [hh']
    go_wp2
    go_ret
    exact ⟨_, rfl, congrArg (Value.int .i64) (by simp [nextHead, hh']), hb1⟩
  have hr : 0 ≤ h ∧ h ≤ 3 := by simpa [inb] using hh
  by_cases ht : t = 1 ∨ t = -1
  rotate_left
  · have hn1 : t ≠ 1 := fun e => ht (.inl e)
    have hn2 : t ≠ -1 := fun e => ht (.inr e)
    have hb1 : (t != 1) = true := by simp [hn1]
    have hb2 : (t != -1) = true := by simp [hn2]
    go_enter Try.func99, Try.ntmps99
    go_wp2_with fail
    refine (isHeading_any _ _).mono ?_
    rintro e w1 ⟨v, rfl, rfl, hb3⟩
    rw [hh]
    go_wp2
    go_ret
    exact ⟨_, rfl, congrArg (Value.int .i64) (by simp [nextHead, hn1, hn2]), hb3⟩
  have h4 : h = 0 ∨ h = 1 ∨ h = 2 ∨ h = 3 := by omega
  clear hr
  rcases ht with rfl | rfl <;> rcases h4 with rfl | rfl | rfl | rfl
  all_goals (
    go_enter Try.func99, Try.ntmps99
    go_wp2_with fail
    refine (isHeading_any _ _).mono ?_
    rintro e w1 ⟨v, rfl, rfl, hb3⟩
    rw [hh]
    go_wp2
    go_ret
    exact ⟨_, rfl, congrArg (Value.int .i64) (by simp [nextHead, inb]), hb3⟩)
set_option maxRecDepth 100000 in
set_option maxHeartbeats 400000 in
theorem specNextHeading_any (h t : Int) (w : World) :
    Calls Try.prog 98 #[.int .i64 h, .int .i64 t] w (Post (IntPost (nextHead h t) w)) := by
  by_cases hh : inb h 0 3 = true
  rotate_left
  · go_enter Try.func98, Try.ntmps98
    go_wp2_with fail
    refine (l01In_any _ _ _ _).mono ?_
    rintro e w1 ⟨v, rfl, rfl, hb1⟩
    have hh' : inb h 0 3 = false := by simpa using hh
    rw [hh']
    go_wp2
    go_ret
    exact ⟨_, rfl, congrArg (Value.int .i64) (by simp [nextHead, hh']), hb1⟩
  have hr : 0 ≤ h ∧ h ≤ 3 := by simpa [inb] using hh
  by_cases ht : t = 1 ∨ t = -1
  rotate_left
  · have hn1 : t ≠ 1 := fun e => ht (.inl e)
    have hn2 : t ≠ -1 := fun e => ht (.inr e)
    have hb1 : (t != 1) = true := by simp [hn1]
    have hb2 : (t != -1) = true := by simp [hn2]
    go_enter Try.func98, Try.ntmps98
    go_wp2_with fail
    refine (l01In_any _ _ _ _).mono ?_
    rintro e w1 ⟨v, rfl, rfl, hb3⟩
    rw [hh]
    go_wp2
    go_ret
    exact ⟨_, rfl, congrArg (Value.int .i64) (by simp [nextHead, hn1, hn2]), hb3⟩
  have h4 : h = 0 ∨ h = 1 ∨ h = 2 ∨ h = 3 := by omega
  clear hr
  rcases ht with rfl | rfl <;> rcases h4 with rfl | rfl | rfl | rfl
  all_goals (
    go_enter Try.func98, Try.ntmps98
    go_wp2_with fail
    refine (l01In_any _ _ _ _).mono ?_
    rintro e w1 ⟨v, rfl, rfl, hb3⟩
    rw [hh]
    go_wp2
    go_ret
    exact ⟨_, rfl, congrArg (Value.int .i64) (by simp [nextHead, inb]), hb3⟩)
end Go.Proofs.Ytjkbecgenjhaaaa
