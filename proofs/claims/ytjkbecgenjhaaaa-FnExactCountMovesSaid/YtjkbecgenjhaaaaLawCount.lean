/-
  The law on CountMoves returns true, whatever motion comes in: the walk through the law by the contracts.
-/
import Derived.Test.YtjkbecgenjhaaaaSz
import Derived.Test.YtjkbecgenjhaaaaTo
import Derived.Test.YtjkbecgenjhaaaaEq
import Derived.Test.YtjkbecgenjhaaaaCount
namespace Go.Proofs.Ytjkbecgenjhaaaa
open Go.RowKit
set_option maxRecDepth 100000 in
set_option maxHeartbeats 400000 in
theorem lawCountMoves (v : Value) (l : DStepS) (w : World) (hl : Has RStepS w [v] l) :
    Calls Try.prog 3 #[v] w (Post fun r w' => r = .bool true ∧ Below w.heap.size w w') := by
  have HL := Lib.hid hl; clear hl
  by_cases hsz : szr 1048576 (l.length + tStepS l) < 0
  · have HS := Lib.hid hsz
    go_enter Try.func3, Try.ntmps3
    go_wp2_with fail
    refine (szStepS_any _ _ _ _ HL.out (by omega) (by omega)).mono ?_
    rintro e w1 ⟨v, rfl, rfl, hb1⟩
    go_wp2
    go_ret
    exact ⟨_, rfl, rfl, hb1⟩
  have hok := szr_ok (Int.not_lt.1 hsz)
  have hsz' : 0 ≤ szr 1048576 (l.length + tStepS l) := by omega
  have HS := Lib.hid hok; clear hok
  go_enter Try.func3, Try.ntmps3
  go_wp2_with fail
  refine (szStepS_any _ _ _ _ HL.out (by omega) (by omega)).mono ?_
  rintro e w1 ⟨v, rfl, rfl, hb1⟩
  go_wp2_with fail
  have hle : l.length + tStepS l ≤ 1048576 := by have := HS.out.1; omega
  clear hsz hsz'
  refine (toStepS_any _ _ _ (HL.out.below hb1) hle).mono ?_
  rintro e w2 ⟨v2, rfl, ho2, hc2⟩
  have hb2 := Below.up hb1 hc2 hb1.size
  have HO2 := Lib.hid ho2; clear ho2
  go_wp2_with fail
  refine (specCountMoves_any _ _ _ HO2.out.has).mono ?_
  rintro e w3 ⟨v, rfl, rfl, hc3⟩
  have hb3 := Below.up hb2 hc3 hb2.size
  go_wp2_with fail
  refine (toStepS_any _ _ _ (HL.out.below hb3) hle).mono ?_
  rintro e w4 ⟨v4, rfl, ho4, hc4⟩
  have hb4 := Below.up hb3 hc4 hb3.size
  have HO4 := Lib.hid ho4; clear ho4
  go_wp2_with fail
  refine (implCountMoves_any _ _ _ HO4.out.has).mono ?_
  rintro e w5 ⟨v, rfl, rfl, hc5⟩
  have hb5 := Below.up hb4 hc5 hb4.size
  go_wp2_with fail
  refine (toStepS_any _ _ _ (HL.out.below hb5) hle).mono ?_
  rintro e w6 ⟨v6, rfl, ho6, hc6⟩
  have hb6 := Below.up hb5 hc6 hb5.size
  have HO6 := Lib.hid ho6; clear ho6
  go_wp2_with fail
  refine (eqStepS_any _ _ _ _ _ ((HO4.out.has.below hc5).below hc6) HO6.out.has).mono ?_
  rintro e w7 ⟨v, rfl, rfl, hc7⟩
  have hb7 := Below.up hb6 hc7 hb6.size
  rw [eqb_true rfl]
  go_wp2
  go_ret
  exact ⟨_, rfl, rfl, hb7⟩
end Go.Proofs.Ytjkbecgenjhaaaa
