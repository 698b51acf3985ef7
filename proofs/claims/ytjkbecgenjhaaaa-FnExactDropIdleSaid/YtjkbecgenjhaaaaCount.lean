/-
  The moves and the turns of a motion are counted.
-/
import Derived.Test.YtjkbecgenjhaaaaData
namespace Go.Proofs.Ytjkbecgenjhaaaa
open Go.RowKit

def nMoves (l : DStepS) : Nat := l.countP fun x => x.1 == 0
def nTurns (l : DStepS) : Nat := l.countP fun x => x.1 != 0
theorem moves_turns (l : DStepS) : nMoves l + nTurns l = l.length := by
  have := List.length_eq_countP_add_countP (fun x : DStep => x.1 == 0) (l := l)
  unfold nMoves nTurns
  rw [this]
  congr 2
  funext x
  by_cases h : x.1 = 0 <;> simp [h]
theorem nMoves_snoc (l : DStepS) (x : DStep) : nMoves (l ++ [x]) = nMoves l + if x.1 == 0 then 1 else 0 := by
  unfold nMoves; rw [List.countP_append]; simp [List.countP_cons]
theorem nTurns_snoc (l : DStepS) (x : DStep) : nTurns (l ++ [x]) = nTurns l + if x.1 != 0 then 1 else 0 := by
  unfold nTurns; rw [List.countP_append]; simp [List.countP_cons]
theorem nMoves_le (l : DStepS) : nMoves l ≤ l.length := List.countP_le_length
theorem nTurns_le (l : DStepS) : nTurns l ≤ l.length := List.countP_le_length

def IntPost (n : Int) (w : World) : Value → World → Prop := fun v w' => v = .int .i64 n ∧ Below w.heap.size w w'
set_option maxRecDepth 100000 in
set_option maxHeartbeats 400000 in
theorem specCountMoves_any (v : Value) (l : DStepS) (w : World) (hl : Has RStepS w [v] l) :
    Calls Try.prog 12 #[v] w (Post (IntPost (nMoves l) w)) := by
  obtain ⟨ad, c, rfl, hc, hm, hg⟩ := hl.elems
  unfold maxLen at hm
  have HG := Lib.hid hg; clear hg hl
  go_enter Try.func12, Try.ntmps12
  go_wp2
  go_loopw [3, 8] (fun n i wr => ∃ k : Nat, k ≤ l.length ∧ i = .int .i64 k ∧ n = .int .i64 (nMoves (l.take k) : Nat) ∧ Below w.heap.size w wr) (fun _ i _ => l.length - (intOf i).toNat)
  case atStart => exact ⟨0, Nat.zero_le _, rfl, congrArg (Value.int .i64) (by simp [nMoves]), Below.refl _ _⟩
  case round =>
    obtain ⟨k, hk, rfl, rfl, hbw⟩ := hrel
    have hle := nMoves_le (l.take k)
    rw [List.length_take] at hle
    by_cases hkl : k < l.length
    rotate_left
    · obtain rfl : k = l.length := by omega
      go_wp2
      go_ret
      exact ⟨_, rfl, congrArg (Value.int .i64) (by rw [List.take_length]), hbw⟩
    obtain ⟨b, off, csc, rfl, hbl, hx, hcs⟩ := HG.out k hkl
    obtain ⟨c0, c1, c2, c3, c4, c5, c6, rfl⟩ := list7 hx.len
    have oc0 := hx.one 0 _ rfl
    have oc1 := hx.one 1 _ rfl
    have oc2 := hx.one 2 _ rfl
    have oc3 := hx.one 3 _ rfl
    have oc4 := hx.one 4 _ rfl
    have oc5 := hx.one 5 _ rfl
    have oc6 := hx.one 6 _ rfl
    have gc0 : wr.cell? ⟨b, off + k * 7, none⟩ = some c0 := (hbw.cell (p := ⟨b, _, none⟩) hbl).trans (hcs 0 _ rfl)
    have gc1 : wr.cell? ⟨b, off + k * 7 + 1, none⟩ = some c1 := (hbw.cell (p := ⟨b, _, none⟩) hbl).trans (hcs 1 _ rfl)
    have gc2 : wr.cell? ⟨b, off + k * 7 + 2, none⟩ = some c2 := (hbw.cell (p := ⟨b, _, none⟩) hbl).trans (hcs 2 _ rfl)
    have gc3 : wr.cell? ⟨b, off + k * 7 + 3, none⟩ = some c3 := (hbw.cell (p := ⟨b, _, none⟩) hbl).trans (hcs 3 _ rfl)
    have gc4 : wr.cell? ⟨b, off + k * 7 + 4, none⟩ = some c4 := (hbw.cell (p := ⟨b, _, none⟩) hbl).trans (hcs 4 _ rfl)
    have gc5 : wr.cell? ⟨b, off + k * 7 + 5, none⟩ = some c5 := (hbw.cell (p := ⟨b, _, none⟩) hbl).trans (hcs 5 _ rfl)
    have gc6 : wr.cell? ⟨b, off + k * 7 + 6, none⟩ = some c6 := (hbw.cell (p := ⟨b, _, none⟩) hbl).trans (hcs 6 _ rfl)
    clear hcs
    obtain ⟨hp0, hp1⟩ := hx.split [c0] [c1, c2, c3, c4, c5, c6] rfl
    obtain rfl := hp0.int.1
    have hsn := nMoves_snoc (l.take k) l[k]
    rw [← List.take_succ_eq_append_getElem hkl] at hsn
    clear hx hp0 hp1
    by_cases hz : l[k].1 = 0
    · have ht : (l[k].1 == 0) = true := by simp [hz]
      rw [if_pos ht] at hsn
      have HS := Lib.hid hsn; clear hsn hz
      go_wp2
      go_roundw
      case rel => exact ⟨k + 1, by omega, by go_num, congrArg (Value.int .i64) (by rw [HS.out]; omega), hbw.alloc hbw.size _⟩
      case measure => simp [intOf]; omega
    · have ht : (l[k].1 == 0) = false := by simp [hz]
      rw [if_neg (by simp [hz])] at hsn
      have HS := Lib.hid hsn; clear hsn hz
      go_wp2
      go_roundw
      case rel => exact ⟨k + 1, by omega, by go_num, congrArg (Value.int .i64) (by rw [HS.out]; omega), hbw.alloc hbw.size _⟩
      case measure => simp [intOf]; omega
set_option maxRecDepth 100000 in
set_option maxHeartbeats 400000 in
theorem countTurns_any (v : Value) (l : DStepS) (w : World) (hl : Has RStepS w [v] l) :
    Calls Try.prog 54 #[v] w (Post (IntPost (nTurns l) w)) := by
  obtain ⟨ad, c, rfl, hc, hm, hg⟩ := hl.elems
  unfold maxLen at hm
  have HG := Lib.hid hg; clear hg hl
  go_enter Try.func54, Try.ntmps54
  go_wp2
  go_loopw [3, 8] (fun n i wr => ∃ k : Nat, k ≤ l.length ∧ i = .int .i64 k ∧ n = .int .i64 (nTurns (l.take k) : Nat) ∧ Below w.heap.size w wr) (fun _ i _ => l.length - (intOf i).toNat)
  case atStart => exact ⟨0, Nat.zero_le _, rfl, congrArg (Value.int .i64) (by simp [nTurns]), Below.refl _ _⟩
  case round =>
    obtain ⟨k, hk, rfl, rfl, hbw⟩ := hrel
    have hle := nTurns_le (l.take k)
    rw [List.length_take] at hle
    by_cases hkl : k < l.length
    rotate_left
    · obtain rfl : k = l.length := by omega
      go_wp2
      go_ret
      exact ⟨_, rfl, congrArg (Value.int .i64) (by rw [List.take_length]), hbw⟩
    obtain ⟨b, off, csc, rfl, hbl, hx, hcs⟩ := HG.out k hkl
    obtain ⟨c0, c1, c2, c3, c4, c5, c6, rfl⟩ := list7 hx.len
    have oc0 := hx.one 0 _ rfl
    have oc1 := hx.one 1 _ rfl
    have oc2 := hx.one 2 _ rfl
    have oc3 := hx.one 3 _ rfl
    have oc4 := hx.one 4 _ rfl
    have oc5 := hx.one 5 _ rfl
    have oc6 := hx.one 6 _ rfl
    have gc0 : wr.cell? ⟨b, off + k * 7, none⟩ = some c0 := (hbw.cell (p := ⟨b, _, none⟩) hbl).trans (hcs 0 _ rfl)
    have gc1 : wr.cell? ⟨b, off + k * 7 + 1, none⟩ = some c1 := (hbw.cell (p := ⟨b, _, none⟩) hbl).trans (hcs 1 _ rfl)
    have gc2 : wr.cell? ⟨b, off + k * 7 + 2, none⟩ = some c2 := (hbw.cell (p := ⟨b, _, none⟩) hbl).trans (hcs 2 _ rfl)
    have gc3 : wr.cell? ⟨b, off + k * 7 + 3, none⟩ = some c3 := (hbw.cell (p := ⟨b, _, none⟩) hbl).trans (hcs 3 _ rfl)
    have gc4 : wr.cell? ⟨b, off + k * 7 + 4, none⟩ = some c4 := (hbw.cell (p := ⟨b, _, none⟩) hbl).trans (hcs 4 _ rfl)
    have gc5 : wr.cell? ⟨b, off + k * 7 + 5, none⟩ = some c5 := (hbw.cell (p := ⟨b, _, none⟩) hbl).trans (hcs 5 _ rfl)
    have gc6 : wr.cell? ⟨b, off + k * 7 + 6, none⟩ = some c6 := (hbw.cell (p := ⟨b, _, none⟩) hbl).trans (hcs 6 _ rfl)
    clear hcs
    obtain ⟨hp0, hp1⟩ := hx.split [c0] [c1, c2, c3, c4, c5, c6] rfl
    obtain rfl := hp0.int.1
    have hsn := nTurns_snoc (l.take k) l[k]
    rw [← List.take_succ_eq_append_getElem hkl] at hsn
    clear hx hp0 hp1
    by_cases hz : l[k].1 = 0
    · have ht : (l[k].1 != 0) = false := by simp [hz]
      rw [if_neg (by simp [hz])] at hsn
      have HS := Lib.hid hsn; clear hsn hz
      go_wp2
      go_roundw
      case rel => exact ⟨k + 1, by omega, by go_num, congrArg (Value.int .i64) (by rw [HS.out]; omega), hbw.alloc hbw.size _⟩
      case measure => simp [intOf]; omega
    · have ht : (l[k].1 != 0) = true := by simp [hz]
      rw [if_pos ht] at hsn
      have HS := Lib.hid hsn; clear hsn hz
      go_wp2
      go_roundw
      case rel => exact ⟨k + 1, by omega, by go_num, congrArg (Value.int .i64) (by rw [HS.out]; omega), hbw.alloc hbw.size _⟩
      case measure => simp [intOf]; omega

set_option maxRecDepth 100000 in
set_option maxHeartbeats 400000 in
theorem implCountMoves_any (v : Value) (l : DStepS) (w : World) (hl : Has RStepS w [v] l) :
    Calls Try.prog 14 #[v] w (Post (IntPost (nMoves l) w)) := by
  obtain ⟨ad, c, rfl, hc, hm⟩ := hl.len_slice
  unfold maxLen at hm
  have HL := Lib.hid hl; clear hl
  have h1 := moves_turns l
  have h2 := nTurns_le l
  have H1 := Lib.hid h1; clear h1
  go_enter Try.func14, Try.ntmps14
  go_wp2_with fail
  refine (countTurns_any _ _ _ HL.out).mono ?_
  rintro e w1 ⟨v, rfl, rfl, hb1⟩
  go_wp2
  go_ret
  exact ⟨_, rfl, congrArg (Value.int .i64) (by have := H1.out; omega), hb1⟩
end Go.Proofs.Ytjkbecgenjhaaaa
