/-
  Texts of a proof, one behind another: ArIn, Dw25, Dw45, Same, Dw26, Dw27, Dw46, LwT, OpensT, LawStandsTouch.
-/
import Derived.Lib.SliceRun
import Derived.Deep.LoopGhost
import Derived.Test.YtghckbohaghgkaaGreatKA4
set_option linter.all false
/-
  Coordinates that are at most a size: the closure that holds the size, and the whole.
-/
namespace Go.Proofs.YtghckbohaghgkaaGreat
open Go.RowKit Go.Lib
def inr (n lo hi : Int) : Bool := decide (lo ≤ n) && decide (n ≤ hi)
set_option maxRecDepth 100000 in
set_option maxHeartbeats 400000 in
theorem within_eq (n lo hi : Int) (w : World) :
    Calls Tryz.prog 48 #[.int .i64 n, .int .i64 lo, .int .i64 hi] w (fun e w' => e = .returned (.bool (inr n lo hi)) ∧ w' = w) := by
  by_cases h1 : lo ≤ n
  · by_cases h2 : n ≤ hi
    · go_enter Tryz.func48, Tryz.ntmps48
      go_wp2
      go_ret
      exact ⟨by simp [inr, h1, h2], rfl⟩
    · go_enter Tryz.func48, Tryz.ntmps48
      go_wp2
      go_ret
      exact ⟨by simp [inr, h1, h2], rfl⟩
  · go_enter Tryz.func48, Tryz.ntmps48
    go_wp2
    go_ret
    exact ⟨by simp [inr]; omega, rfl⟩
def encV (x : Int × Int) : List Value := [.int .i64 x.1, .int .i64 x.2]
def PredV (g : Nat) (lb : Array Value) (p : Int × Int → Bool) (w : World) : Prop :=
  ∀ (W : World) (x : Int × Int), Below w.heap.size w W → Calls Tryz.prog g (#[.agg (encV x).toArray] ++ lb) W fun e w' => e = .returned (.bool (p x)) ∧ Below w.heap.size w w'
set_option maxRecDepth 100000 in
set_option maxHeartbeats 400000 in
theorem arIn_pred (k : Int) (hk : 0 ≤ k ∧ k ≤ 1000000) (B : Nat) (w : World) (hB : B < w.heap.size) (hcell : w.cell? ⟨B, 0, none⟩ = some (.int .i64 k)) :
    PredV 179 #[.pointer (some ⟨B, 0, none⟩)] (fun x => !DW.inB k x) w := fun W x hb => by
  have hc : W.cell? ⟨B, 0, none⟩ = some (.int .i64 k) := (hb.cell (p := ⟨B, 0, none⟩) hB).trans hcell
  have hBW : B < W.heap.size := Nat.lt_of_lt_of_le hB hb.size
  have hne : B ≠ W.heap.size := by omega
  have hbl : Below w.heap.size w (W.alloc (.cells #[.int .i64 x.1, .int .i64 x.2] 113)) := hb.alloc hb.size _
  have e1 : DW.inB k x = (inr x.1 (-k) k && inr x.2 (-k) k) := by unfold DW.inB inr; rw [Bool.decide_and, Bool.decide_and]
  show Calls Tryz.prog 179 #[.agg #[.int .i64 x.1, .int .i64 x.2], .pointer (some ⟨B, 0, none⟩)] W fun e w' => e = .returned (.bool (!DW.inB k x)) ∧ Below w.heap.size w w'
  rw [e1]
  cases h1 : inr x.1 (-k) k
  · go_enter Tryz.func179, Tryz.ntmps179
    go_wp2_with fail
    refine (within_eq _ _ _ _).mono ?_
    rintro e w1 ⟨rfl, rfl⟩
    rw [h1]
    go_wp2
    go_ret
    exact ⟨rfl, hbl⟩
  · go_enter Tryz.func179, Tryz.ntmps179
    go_wp2_with fail
    refine (within_eq _ _ _ _).mono ?_
    rintro e w1 ⟨rfl, rfl⟩
    rw [h1]
    go_wp2_with fail
    refine (within_eq _ _ _ _).mono ?_
    rintro e w1 ⟨rfl, rfl⟩
    go_wp2
    go_ret
    exact ⟨by simp, hbl⟩
set_option maxRecDepth 100000 in
set_option maxHeartbeats 2000000 in
theorem indexFuncV (g : Nat) (lb : Array Value) (p : Int × Int → Bool) (eg : ∀ args w, (callFunc g args).run Tryz.prog w = .ok (.enter g args) w) (b off c : Nat) (l : List (Int × Int)) (w : World) (hp : PredV g lb p w) (hbig : l.length ≤ 9223372036854775807) (hb : b < w.heap.size)
    (hc : ∀ j, j < l.length → ∀ i v, (encV l[j]!)[i]? = some v → w.cell? ⟨b, off + j * 2 + i, none⟩ = some v) :
    Calls Tryz.prog 211 #[.slice (some ⟨b, off, none⟩) l.length c, .func (.func g) #[] lb] w fun e w' => e = .returned (.int .i64 (DW.ixf (t := DW.tVec) p l)) ∧ Below w.heap.size w w' := by
  have hrow : ∀ (W : World), Below w.heap.size w W → ∀ j, j < l.length → W.cell? ⟨b, off + j * 2, none⟩ = some (.int .i64 l[j]!.1) ∧ W.cell? ⟨b, off + j * 2 + 1, none⟩ = some (.int .i64 l[j]!.2) := fun W hW j hj =>
    ⟨(hW.cell (p := ⟨b, off + j * 2, none⟩) hb).trans (hc j hj 0 _ rfl), (hW.cell (p := ⟨b, off + j * 2 + 1, none⟩) hb).trans (hc j hj 1 _ rfl)⟩
  clear hc
  obtain ⟨n, hn⟩ : ∃ n, n = l.length := ⟨_, rfl⟩
  have HN : Aside (n = l.length) := hn
  rw [← hn] at hrow hbig ⊢
  clear hn
  go_enter Tryz.func211, Tryz.ntmps211
  go_wp2
  go_loopg [5, 8] n (fun gg _ s8 wr => ∃ kk : Nat, kk ≤ n ∧ n - kk ≤ gg ∧ s8 = .int .i64 kk ∧ Aside (Below w.heap.size w wr) ∧ Aside (∀ j, j < kk → p l[j]! = false))
  case atStart => exact ⟨0, Nat.zero_le _, by omega, rfl, Below.refl _ w, fun j hj => absurd hj (Nat.not_lt_zero _)⟩
  case round =>
    obtain ⟨kk, hkk, hg, rfl, BW, A⟩ := hrel
    by_cases hlt : kk < n
    · have hltz : (kk : Int) < (n : Int) := by omega
      obtain ⟨l2, l3⟩ := hrow wr BW.out kk (by have := HN.out; omega)
      have hcall : Calls Tryz.prog g (#[.agg #[.int .i64 l[kk]!.1, .int .i64 l[kk]!.2]] ++ lb) wr fun e w' => e = .returned (.bool (p l[kk]!)) ∧ Below w.heap.size w w' := hp wr l[kk]! BW.out
      clear hrow hp
      generalize hy : l[kk]! = y at l2 l3 hcall
      have B : Aside (l[kk]! = y) := hy
      clear hy
      cases hq : p y with
      | true =>
        rw [hq] at hcall
        go_wp2_with fail
        refine hcall.mono ?_
        rintro e w' ⟨rfl, hb'⟩
        go_wp2
        go_ret
        refine ⟨?_, hb'⟩
        have hkl : kk < l.length := by have := HN.out; omega
        rw [DW.ixf_at hkl (by rw [DW.nth_lt hkl, ← getElem!_pos l kk hkl, B.out]; exact hq) (fun j hj => by rw [DW.nth_lt (by omega), ← getElem!_pos l j (by omega)]; exact A.out j hj)]
        rfl
      | false =>
        rw [hq] at hcall
        go_wp2_with fail
        refine hcall.mono ?_
        rintro e w' ⟨rfl, hb'⟩
        go_wp2
        go_roundg (n - (kk + 1))
        case measure => omega
        case rel =>
          refine ⟨kk + 1, by omega, by omega, by go_num, hb', (show Aside _ from fun j hj => ?_)⟩
          by_cases e : j = kk
          · subst e
            rw [B.out]; exact hq
          · exact A.out j (by omega)
    · have hltz : ¬ (kk : Int) < (n : Int) := by omega
      have : kk = n := by omega
      subst this
      go_wp2
      go_ret
      refine ⟨?_, BW.out⟩
      have hkl := HN.out
      rw [DW.ixf_none fun j hj => by rw [DW.nth_lt hj, ← getElem!_pos l j hj]; exact A.out j (by omega)]
      rfl
end Go.Proofs.YtghckbohaghgkaaGreat
namespace Go.Proofs.YtghckbohaghgkaaGreat.DW
open Go.RowKit Go.Lib
set_option maxRecDepth 100000 in
set_option maxHeartbeats 1000000 in
theorem areIn_fn (k : Int) (hk : 0 ≤ k ∧ k ≤ 1000000) (l : List DV) (hl : l ≠ []) : Fn Tryz.prog 134 [⟨.int, k⟩, ⟨.slice tVec, l⟩] false [⟨.bool, !(l.any fun v => !inB k v)⟩] := by
  refine ⟨enters Tryz.func134 rfl rfl, fun w vs S ha => ?_⟩
  match vs, ha with
  | [v0, v1], ⟨⟨f0, h0, _⟩, ⟨f1, ⟨cs, hpk, hr⟩, _⟩, _⟩ =>
    obtain rfl := drep_int h0
    obtain rfl := pk_one rfl hpk
    obtain ⟨ad, c, hcs, hc1, hc2, ⟨hnil, _⟩ | ⟨b, off, fps, _, rfl, _, hE⟩⟩ := hr
    · exact absurd hnil hl
    injection hcs with hcs _
    subst hcs
    have hcell : ∀ j, j < l.length → ∀ i v, (encV l[j]!)[i]? = some v → w.cell? ⟨b, off + j * 2 + i, none⟩ = some v := by
      intro j hj i v hv
      obtain ⟨f, cs, _, hrp, hc⟩ := hE.2 j _ (List.getElem?_eq_getElem hj)
      obtain ⟨c1, c2, f1, f2, rfl, _, g1, g2⟩ := hrp
      rw [getElem!_pos l j hj] at hv
      have e1 : c1 = [.int .i64 l[j].1] := g1.1
      have e2 : c2 = [.int .i64 l[j].2] := g2.1
      rw [e1, e2] at hc
      exact hc i v hv
    have hb : b < w.heap.size := by
      have h0 : 0 < l.length := List.length_pos_iff.2 hl
      exact cell_lt (hcell 0 h0 0 _ rfl)
    have eg : ∀ args w, (callFunc 179 args).run Tryz.prog w = .ok (.enter 179 args) w := enters Tryz.func179 rfl rfl
    have hix := indexFuncV 179 #[.pointer (some ⟨w.heap.size, 0, none⟩)] (fun x => !inB k x) eg b off c l (w.alloc (.cells #[.int .i64 k] 3))
      (arIn_pred k hk w.heap.size _ (by simp) (by simp)) (Nat.le_trans hc1 (Nat.le_trans hc2 (by decide))) (by simp; omega) (fun j hj i v hi => Lib.cell?_alloc_some _ (hcell j hj i v hi))
    have hcon : Calls Tryz.prog 168 #[.slice (some ⟨b, off, none⟩) l.length c, .func (.func 179) #[] #[.pointer (some ⟨w.heap.size, 0, none⟩)]] (w.alloc (.cells #[.int .i64 k] 3)) fun e w' => e = .returned (.bool (l.any fun x => !inB k x)) ∧ Below (w.alloc (.cells #[.int .i64 k] 3)).heap.size (w.alloc (.cells #[.int .i64 k] 3)) w' := by
      rw [show (l.any fun x => !inB k x) = decide (0 ≤ ixf (t := tVec) (fun x => !inB k x) l) from (@ixf_any tVec (fun x => !inB k x) l).symm]
      generalize ixf (t := tVec) (fun x => !inB k x) l = r at hix ⊢
      generalize l.length = n at hix ⊢
      generalize w.alloc (.cells #[.int .i64 k] 3) = W at hix ⊢
      go_enter Tryz.func168, Tryz.ntmps168
      go_wp2_with fail
      refine hix.mono ?_
      rintro e w' ⟨rfl, hb'⟩
      go_wp2
      go_ret
      exact ⟨rfl, hb'⟩
    clear hcell hE
    generalize (l.any fun x => !inB k x) = r at hcon ⊢
    have key : Calls Tryz.prog 134 #[.int .i64 k, .slice (some ⟨b, off, none⟩) l.length c] w (fun e w' => e = .returned (.bool (!r)) ∧ Below w.heap.size w w') := by
      generalize l.length = n at hcon ⊢
      go_enter Tryz.func134, Tryz.ntmps134
      go_wp2_with fail
      refine hcon.mono ?_
      rintro e w' ⟨rfl, hb'⟩
      go_wp2
      go_ret
      exact ⟨rfl, ((Below.refl _ w).alloc (Nat.le_refl _) _).trans (hb'.mono (by simp))⟩
    exact key.mono fun e w' h => ⟨h.2, _, h.1, dres_bool⟩
end Go.Proofs.YtghckbohaghgkaaGreat.DW

/-
  Small polygons.
-/
namespace Go.Proofs.YtghckbohaghgkaaGreat.DW
open Go.RowKit
def allIn (k : Int) (l : List DV) : Bool := !(l.any fun v => !inB k v)
theorem allIn_f {k : Int} {l : List DV} {i : Nat} (hi : i < l.length) (h : inB k (nth (t := tVec) l i) = false) : allIn k l = false := by
  unfold allIn
  rw [Bool.not_eq_false', List.any_eq_true]
  exact ⟨_, nth_mem hi, by rw [h]; rfl⟩
theorem allIn_t {k : Int} {l : List DV} (h : ∀ i, i < l.length → inB k (nth (t := tVec) l i) = true) : allIn k l = true := by
  unfold allIn
  rw [Bool.not_eq_true', List.any_eq_false]
  intro v hv
  obtain ⟨i, hi, rfl⟩ := List.getElem_of_mem hv
  have := h i hi
  rw [nth_lt hi] at this
  rw [this]; decide
theorem l10Inside_fn (l : List DV) (k : Int) (hk : 0 ≤ k ∧ k ≤ 1000000) : Fn Tryz.prog 131 [⟨.slice tVec, l⟩, ⟨.int, k⟩] false [⟨.bool, allIn k l⟩] := by
  refine fn_enter tabOK mixes Tryz.func131 rfl rfl _ Tryz.ntmps131 _ Tryz.results131 (by simp) fun hwf => ?_
  have hl : l.length ≤ 9223372036854775807 := (hwf ⟨.slice tVec, l⟩ (by simp)).1
  try simp (config := { maxSteps := 10000000 }) only [go_sem]
  refine LoopG.intro _ _ _ (fun i : Nat => ⟨[(1, .sc (.int .i64 k)), (7, .sl tVec l), (8, .sc (.int .i64 l.length)), (9, .sc (.int .i64 i))], []⟩) (fun i => ∀ j, j < i → j < l.length → inB k (nth (t := tVec) l j) = true) (fun i => l.length - i) 0 ?_ (fun j h => absurd h (Nat.not_lt_zero _)) ?_
  · refine Wk.mk [] ?_
    try simp (config := { maxSteps := 10000000 }) only [go_sem]
    try (and_intros <;> first | rfl | omega | exact ⟨_, rfl⟩)
  · rintro i hi
    try simp (config := { maxSteps := 10000000 }) only [go_sem]
    refine CondW_dec (fun hA => ?_) (fun hA => ?_)
    · have c1 := l01In_fn (nth (t := tVec) l i).1 (-k) k
      have c2 := l01In_fn (nth (t := tVec) l i).2 (-k) k
      cases e1 : decide (-k ≤ (nth (t := tVec) l i).1 ∧ (nth (t := tVec) l i).1 ≤ k) <;> rw [e1] at c1
      · have e0 : inB k (nth (t := tVec) l i) = false := by unfold inB; rw [e1]; rfl
        rw [allIn_f (by omega) e0]
        try simp (config := { maxSteps := 10000000 }) only [go_sem]
        repeat (refine And.intro (by first | omega | (constructor <;> omega) | kernel_rfl) ?_)
        repeat (refine And.intro (by first | omega | (constructor <;> omega) | kernel_rfl) ?_)
        refine CallW.mk (c1) ?_
        try simp (config := { maxSteps := 10000000 }) only [go_sem]
      · cases e2 : decide (-k ≤ (nth (t := tVec) l i).2 ∧ (nth (t := tVec) l i).2 ≤ k) <;> rw [e2] at c2
        · have e0 : inB k (nth (t := tVec) l i) = false := by unfold inB; rw [e1, e2]; rfl
          rw [allIn_f (by omega) e0]
          try simp (config := { maxSteps := 10000000 }) only [go_sem]
          repeat (refine And.intro (by first | omega | (constructor <;> omega) | kernel_rfl) ?_)
          repeat (refine And.intro (by first | omega | (constructor <;> omega) | kernel_rfl) ?_)
          refine CallW.mk (c1) ?_
          try simp (config := { maxSteps := 10000000 }) only [go_sem]
          repeat (refine And.intro (by first | omega | (constructor <;> omega) | kernel_rfl) ?_)
          refine CallW.mk (c2) ?_
          try simp (config := { maxSteps := 10000000 }) only [go_sem]
        · have e0 : inB k (nth (t := tVec) l i) = true := by unfold inB; rw [e1, e2]; rfl
          try simp (config := { maxSteps := 10000000 }) only [go_sem]
          repeat (refine And.intro (by first | omega | (constructor <;> omega) | kernel_rfl) ?_)
          repeat (refine And.intro (by first | omega | (constructor <;> omega) | kernel_rfl) ?_)
          refine CallW.mk (c1) ?_
          try simp (config := { maxSteps := 10000000 }) only [go_sem]
          repeat (refine And.intro (by first | omega | (constructor <;> omega) | kernel_rfl) ?_)
          refine CallW.mk (c2) ?_
          try simp (config := { maxSteps := 10000000 }) only [go_sem]
          repeat (refine And.intro (by first | omega | (constructor <;> omega) | kernel_rfl) ?_)
          refine LoopK.mk (i + 1) ?_ (fun j h1 h2 => ?_) (by omega)
          · refine Wk.mk [] ?_
            try simp (config := { maxSteps := 10000000 }) only [go_sem]
            try (and_intros <;> first | rfl | omega | exact ⟨_, rfl⟩)
          · by_cases h3 : j < i
            · exact hi j h3 h2
            · rw [show j = i by omega]; exact e0
    · rw [allIn_t fun j hj => hi j (by omega) hj]
      try simp (config := { maxSteps := 10000000 }) only [go_sem]
/-- A polygon of at most five corners with coordinates of at most k. -/
noncomputable def smB (l : List DV) (k : Int) : Bool := decide ((l.length : Int) ≤ 5) && (polyB l && allIn k l)
theorem polyB_ne {l : List DV} (h : polyB l = true) : l ≠ [] := by
  rintro rfl
  have := (@of_decide_eq_true _ (Classical.propDecidable _) h : polyP []).1
  simp at this
theorem isSmall_fn (l : List DV) (k : Int) (hk : 0 ≤ k ∧ k ≤ 1000000) : Fn Tryz.prog 95 [⟨.slice tVec, l⟩, ⟨.int, k⟩] false [⟨.bool, smB l k⟩] := by
  have c1 := implIsPolygon_fn l
  unfold smB
  cases h1 : decide ((l.length : Int) ≤ 5)
  · refine fn_enter tabOK mixes Tryz.func95 rfl rfl _ Tryz.ntmps95 _ Tryz.results95 (by simp) fun hwf => ?_
    try simp (config := { maxSteps := 10000000 }) only [go_sem, h1]
  · cases h2 : polyB l <;> rw [h2] at c1
    · refine fn_enter tabOK mixes Tryz.func95 rfl rfl _ Tryz.ntmps95 _ Tryz.results95 (by simp) fun hwf => ?_
      try simp (config := { maxSteps := 10000000 }) only [go_sem, h1]
      repeat (refine And.intro (by first | omega | (constructor <;> omega) | kernel_rfl) ?_)
      refine CallW.mk (c1) ?_
      try simp (config := { maxSteps := 10000000 }) only [go_sem]
    · have c2 : Fn Tryz.prog 134 [⟨.int, k⟩, ⟨.slice tVec, l⟩] false [⟨.bool, allIn k l⟩] := areIn_fn k hk l (polyB_ne h2)
      refine fn_enter tabOK mixes Tryz.func95 rfl rfl _ Tryz.ntmps95 _ Tryz.results95 (by simp) fun hwf => ?_
      try simp (config := { maxSteps := 10000000 }) only [go_sem, h1]
      repeat (refine And.intro (by first | omega | (constructor <;> omega) | kernel_rfl) ?_)
      refine CallW.mk (c1) ?_
      try simp (config := { maxSteps := 10000000 }) only [go_sem]
      repeat (refine And.intro (by first | omega | (constructor <;> omega) | kernel_rfl) ?_)
      refine CallW.mk (c2) ?_
      try simp (config := { maxSteps := 10000000 }) only [go_sem]
theorem l10Shape_fn (l : List DV) (k : Int) (hk : 0 ≤ k ∧ k ≤ 1000000) : Fn Tryz.prog 91 [⟨.slice tVec, l⟩, ⟨.int, k⟩] false [⟨.bool, smB l k⟩] := by
  have c1 := specIsPolygon_fn l
  have c2 := l10Inside_fn l k hk
  unfold smB
  cases h2 : polyB l <;> rw [h2] at c1
  · rw [Bool.false_and, Bool.and_false]
    refine fn_enter tabOK mixes Tryz.func91 rfl rfl _ Tryz.ntmps91 _ Tryz.results91 (by simp) fun hwf => ?_
    try simp (config := { maxSteps := 10000000 }) only [go_sem]
    repeat (refine And.intro (by first | omega | (constructor <;> omega) | kernel_rfl) ?_)
    refine CallW.mk (c1) ?_
    try simp (config := { maxSteps := 10000000 }) only [go_sem]
  · cases h1 : decide ((l.length : Int) ≤ 5)
    · refine fn_enter tabOK mixes Tryz.func91 rfl rfl _ Tryz.ntmps91 _ Tryz.results91 (by simp) fun hwf => ?_
      try simp (config := { maxSteps := 10000000 }) only [go_sem]
      repeat (refine And.intro (by first | omega | (constructor <;> omega) | kernel_rfl) ?_)
      refine CallW.mk (c1) ?_
      try simp (config := { maxSteps := 10000000 }) only [go_sem]
      try simp (config := { maxSteps := 10000000 }) only [go_sem, h1]
    · refine fn_enter tabOK mixes Tryz.func91 rfl rfl _ Tryz.ntmps91 _ Tryz.results91 (by simp) fun hwf => ?_
      try simp (config := { maxSteps := 10000000 }) only [go_sem]
      repeat (refine And.intro (by first | omega | (constructor <;> omega) | kernel_rfl) ?_)
      refine CallW.mk (c1) ?_
      try simp (config := { maxSteps := 10000000 }) only [go_sem]
      try simp (config := { maxSteps := 10000000 }) only [go_sem, h1]
      repeat (refine And.intro (by first | omega | (constructor <;> omega) | kernel_rfl) ?_)
      refine CallW.mk (c2) ?_
      try simp (config := { maxSteps := 10000000 }) only [go_sem]
end Go.Proofs.YtghckbohaghgkaaGreat.DW

/-
  Sums of polygons; what a robot blocks; where a point is of a polygon.
-/
namespace Go.Proofs.YtghckbohaghgkaaGreat.DW
open Go.RowKit
theorem polyB_p {l : List DV} (h : polyB l = true) : polyP l := @of_decide_eq_true _ (Classical.propDecidable _) h
theorem poly_map {l : List DV} {f : DV → DV} (h : polyP l) (hok : ∀ v ∈ l, okV (f v) = true) (ht : ∀ a b c, trn (f a) (f b) (f c) = trn a b c) : polyP (l.map f) := by
  have hn : ∀ {k}, k < l.length → nth (t := tVec) (l.map f) k = f (nth (t := tVec) l k) := fun {k} hk => by
    rw [nth_lt (t := tVec) hk, nth_lt (t := tVec) (l := l.map f) (by rw [List.length_map]; exact hk), List.getElem_map]
  refine ⟨by rw [List.length_map]; exact h.1, fun v hv => ?_, fun i k hi hk => ?_⟩
  · obtain ⟨u, hu, rfl⟩ := List.mem_map.1 hv
    exact hok u hu
  · rw [List.length_map] at hi hk
    have ri := nxt_rng (n := l.length) (i := i) (by omega)
    have := h.2.2 i k hi hk
    unfold cornOK at this ⊢
    rw [List.length_map, hn hi, hn hk, hn (by omega), ht]
    exact this
theorem trn_rot1 (a b c : DV) : trn (rot1 a) (rot1 b) (rot1 c) = trn a b c := by unfold trn rot1; grind
theorem trn_rot (a b c : DV) : ∀ n, trn (rotN n a) (rotN n b) (rotN n c) = trn a b c
  | 0 => rfl
  | n + 1 => by
    show trn (rot1 (rotN n a)) (rot1 (rotN n b)) (rot1 (rotN n c)) = _
    rw [trn_rot1, trn_rot a b c n]
theorem okV_neg {v : DV} (h : okV v = true) : okV (negV v) = true := by
  obtain ⟨h1, h2, h3, h4⟩ := okV_b h
  unfold negV
  exact okV_of (by simp only; omega) (by simp only; omega) (by simp only; omega) (by simp only; omega)
theorem poly_neg {l : List DV} (h : polyP l) : polyP (l.map negV) := poly_map h (fun v hv => okV_neg (h.2.1 v hv)) trn_ng
theorem poly_rot {l : List DV} (h : polyP l) (n : Nat) : polyP (l.map (rotN n)) := poly_map h (fun v hv => okV_rot (h.2.1 v hv) n) fun a b c => trn_rot a b c n
theorem inB_b {k : Int} {v : DV} (h : inB k v = true) : -k ≤ v.1 ∧ v.1 ≤ k ∧ -k ≤ v.2 ∧ v.2 ≤ k := by
  unfold inB at h
  rw [Bool.and_eq_true] at h
  exact ⟨(of_decide_eq_true h.1).1, (of_decide_eq_true h.1).2, (of_decide_eq_true h.2).1, (of_decide_eq_true h.2).2⟩
theorem inB_of {k : Int} {v : DV} (h1 : -k ≤ v.1) (h2 : v.1 ≤ k) (h3 : -k ≤ v.2) (h4 : v.2 ≤ k) : inB k v = true := by
  unfold inB
  rw [Bool.and_eq_true, decide_eq_true_iff, decide_eq_true_iff]
  exact ⟨⟨h1, h2⟩, h3, h4⟩
theorem inB_rot {k : Int} {v : DV} (h : inB k v = true) : ∀ n, inB k (rotN n v) = true
  | 0 => h
  | n + 1 => by
    obtain ⟨b1, b2, b3, b4⟩ := inB_b (inB_rot h n)
    show inB k (rot1 (rotN n v)) = true
    unfold rot1
    exact inB_of (by simp only; omega) (by simp only; omega) (by simp only; omega) (by simp only; omega)
/-- A small polygon. -/
structure SmP (k : Int) (l : List DV) : Prop where
  five : l.length ≤ 5
  poly : polyP l
  ins : ∀ v ∈ l, inB k v = true
theorem smB_p {l : List DV} {k : Int} (h : smB l k = true) : SmP k l := by
  unfold smB at h
  rw [Bool.and_eq_true, Bool.and_eq_true] at h
  obtain ⟨h1, h2, h3⟩ := h
  refine ⟨by have := of_decide_eq_true h1; omega, polyB_p h2, fun v hv => ?_⟩
  unfold allIn at h3
  rw [Bool.not_eq_true', List.any_eq_false] at h3
  have := h3 v hv
  simpa using this
theorem SmP.rot {k : Int} {l : List DV} (h : SmP k l) (n : Nat) : SmP k (l.map (rotN n)) :=
  ⟨by rw [List.length_map]; exact h.five, poly_rot h.poly n, fun v hv => by obtain ⟨u, hu, rfl⟩ := List.mem_map.1 hv; exact inB_rot (h.ins u hu) n⟩
theorem SmP.neg {k : Int} {l : List DV} (h : SmP k l) : SmP k (l.map negV) :=
  ⟨by rw [List.length_map]; exact h.five, poly_neg h.poly, fun v hv => by
    obtain ⟨u, hu, rfl⟩ := List.mem_map.1 hv
    obtain ⟨b1, b2, b3, b4⟩ := inB_b (h.ins u hu)
    unfold negV
    exact inB_of (by simp only; omega) (by simp only; omega) (by simp only; omega) (by simp only; omega)⟩
theorem SmP.ok {k : Int} {l : List DV} (h : SmP k l) : ∀ v ∈ l, okV v = true := h.poly.2.1
theorem SmP.sum_ok {k m : Int} {a b : List DV} (ha : SmP k a) (hb : SmP m b) (hkm : k + m ≤ 1000) : ∀ x ∈ smV a b, okV x = true := by
  intro x hx
  obtain ⟨p, hp, q, hq, rfl⟩ := smV_mem.1 hx
  obtain ⟨b1, b2, b3, b4⟩ := inB_b (ha.ins p hp)
  obtain ⟨c1, c2, c3, c4⟩ := inB_b (hb.ins q hq)
  unfold addV
  exact okV_of (by simp only; omega) (by simp only; omega) (by simp only; omega) (by simp only; omega)
theorem SmP.sum {k m : Int} {a b : List DV} (ha : SmP k a) (hb : SmP m b) (hkm : k + m ≤ 1000) : polyP (hullD (smV a b)) :=
  sum_poly ha.poly hb.poly (by have := ha.five; have := hb.five; omega) (ha.sum_ok hb hkm)
def smI (a b : List DV) (i : Nat) : List DV := smV (a.take i) b
theorem smI_step {a b : List DV} {i : Nat} (h : i < a.length) : smI a b (i + 1) = smI a b i ++ b.map (addV (nth (t := tVec) a i)) := by
  unfold smI smV
  rw [List.take_succ_eq_append_getElem h, nth_lt h, List.flatMap_append]
  simp
theorem smV_len (a b : List DV) : (smV a b).length = a.length * b.length := by
  unfold smV
  induction a with
  | nil => simp
  | cons x a ih => rw [List.flatMap_cons, List.length_append, ih, List.length_map, List.length_cons, Nat.succ_mul]; omega
theorem smI_len {a b : List DV} {i : Nat} (h : i ≤ a.length) : (smI a b i).length = i * b.length := by
  unfold smI; rw [smV_len, List.length_take, Nat.min_eq_left h]
theorem smI_all {a b : List DV} {i : Nat} (h : a.length ≤ i) : smI a b i = smV a b := by unfold smI; rw [List.take_of_length_le h]
theorem five_mul {i n : Nat} (h1 : i ≤ 5) (h2 : n ≤ 5) : i * n ≤ 25 := Nat.mul_le_mul h1 h2
theorem SumPolygonsI_fn {k m : Int} (a b : List DV) (ha : SmP k a) (hb : SmP m b) (hkm : k + m ≤ 1000) : Fn Tryz.prog 122 [⟨.slice tVec, a⟩, ⟨.slice tVec, b⟩] true [⟨.slice tVec, hullD (smV a b)⟩] := by
  have c1 := implIsPolygon_fn a
  have c2 := implIsPolygon_fn b
  rw [polyB_t ha.poly] at c1
  rw [polyB_t hb.poly] at c2
  have hab := five_mul ha.five hb.five
  have l1 := ha.five
  have l2 := hb.five
  have hab' : (a.length : Int) * (b.length : Int) ≤ 25 := by exact_mod_cast hab
  have hab0 : (0 : Int) ≤ (a.length : Int) * (b.length : Int) := Int.mul_nonneg (by omega) (by omega)
  have d0 := decide_eq_false (p := (a.length : Int) * (b.length : Int) > 64) (by omega)
  refine fn_enter tabOK mixes Tryz.func122 rfl rfl _ Tryz.ntmps122 _ Tryz.results122 (by simp) fun hwf => ?_
  try simp (config := { maxSteps := 10000000 }) only [go_sem]
  repeat (refine And.intro (by first | omega | (constructor <;> omega) | kernel_rfl) ?_)
  refine CallW.mk (c1) ?_
  try simp (config := { maxSteps := 10000000 }) only [go_sem]
  repeat (refine And.intro (by first | omega | (constructor <;> omega) | kernel_rfl) ?_)
  refine CallW.mk (c2) ?_
  try simp (config := { maxSteps := 10000000 }) only [go_sem]
  repeat (refine And.intro (by first | omega | (constructor <;> omega) | kernel_rfl) ?_)
  try simp (config := { maxSteps := 10000000 }) only [go_sem, d0]
  refine LoopG.intro _ _ _ (fun i : Nat => ⟨[(1, .sl tVec b), (5, .row 0 0), (26, .sl tVec a), (27, .sc (.int .i64 a.length)), (28, .sc (.int .i64 i))], [(0, .row 113 tVec 0 true (smI a b i))]⟩) (fun i => i ≤ a.length) (fun i => a.length - i) 0 ?_ (Nat.zero_le _) ?_
  · refine Wk.mk [] ?_
    try simp (config := { maxSteps := 10000000 }) only [go_sem]
    try (and_intros <;> first | rfl | omega | exact ⟨_, rfl⟩)
  · rintro i hi
    try simp (config := { maxSteps := 10000000 }) only [go_sem]
    refine CondW_dec (fun hA => ?_) (fun hA => ?_)
    · have hlt : i < a.length := by omega
      have hml := smI_len (a := a) (b := b) (i := i) (by omega)
      have h25 := five_mul (i := i) (n := b.length) (by omega) l2
      have e := smI_step (b := b) hlt
      have c3 := moved_fn b (nth (t := tVec) a i) (ha.ok _ (nth_mem hlt)) hb.ok (by omega)
      have hmm : (b.map (addV (nth (t := tVec) a i))).length = b.length := List.length_map ..
      try simp (config := { maxSteps := 10000000 }) only [go_sem]
      repeat (refine And.intro (by first | omega | (constructor <;> omega) | kernel_rfl) ?_)
      repeat (refine And.intro (by first | omega | (constructor <;> omega) | kernel_rfl) ?_)
      refine CallW.mk (c3) ?_
      try simp (config := { maxSteps := 10000000 }) only [go_sem]
      try simp (config := { maxSteps := 10000000 }) only [go_sem, hml, hmm]
      repeat (refine And.intro (by first | omega | (constructor <;> omega) | kernel_rfl) ?_)
      refine LoopK.mk (i + 1) ?_ (by omega) (by omega)
      rw [e]
      refine Wk.mk [] ?_
      try simp (config := { maxSteps := 10000000 }) only [go_sem]
      try (and_intros <;> first | rfl | omega | exact ⟨_, rfl⟩)
    · rw [smI_all (by omega)]
      have hp := ha.sum hb hkm
      have hsl := smV_len a b
      have pos : 0 < (smV a b).length := by
        rw [hsl]
        have := ha.poly.1.1
        have := hb.poly.1.1
        exact Nat.mul_pos (by omega) (by omega)
      have c4 := HullOf_fn (smV a b) (ha.sum_ok hb hkm) pos (by omega)
      have c5 := implIsPolygon_fn (hullD (smV a b))
      rw [polyB_t hp] at c5
      try simp (config := { maxSteps := 10000000 }) only [go_sem]
      repeat (refine And.intro (by first | omega | (constructor <;> omega) | kernel_rfl) ?_)
      refine CallW.mk (c4) ?_
      try simp (config := { maxSteps := 10000000 }) only [go_sem]
      repeat (refine And.intro (by first | omega | (constructor <;> omega) | kernel_rfl) ?_)
      refine CallW.mk (c5) ?_
      try simp (config := { maxSteps := 10000000 }) only [go_sem]
theorem addV_c (p q : DV) : addV p q = (p.1 + q.1, p.2 + q.2) := by unfold addV; rw [Int.add_comm q.1, Int.add_comm q.2]
def smJ (a b : List DV) (i j : Nat) : List DV := smI a b i ++ mapi (addV (nth (t := tVec) a i)) b j
theorem smJ_step {a b : List DV} {i j : Nat} (h : j < b.length) : smJ a b i (j + 1) = smJ a b i j ++ [((nth (t := tVec) a i).1 + (nth (t := tVec) b j).1, (nth (t := tVec) a i).2 + (nth (t := tVec) b j).2)] := by
  unfold smJ
  rw [mapi_step h, addV_c, List.append_assoc]
theorem smJ_len {a b : List DV} {i j : Nat} (h : i ≤ a.length) (hj : j ≤ b.length) : (smJ a b i j).length = i * b.length + j := by
  unfold smJ
  rw [List.length_append, smI_len h, mapi_len hj]
theorem smJ_0 (a b : List DV) (i : Nat) : smJ a b i 0 = smI a b i := by unfold smJ mapi; simp
theorem smJ_all {a b : List DV} {i j : Nat} (h : i < a.length) (hj : b.length ≤ j) : smJ a b i j = smI a b (i + 1) := by
  unfold smJ
  rw [smI_step h, mapi_all hj]
theorem SumPolygonsS_fn {k m : Int} (a b : List DV) (ha : SmP k a) (hb : SmP m b) (hkm : k + m ≤ 1000) : Fn Tryz.prog 70 [⟨.slice tVec, a⟩, ⟨.slice tVec, b⟩] true [⟨.slice tVec, hullD (smV a b)⟩] := by
  have c1 := specIsPolygon_fn a
  have c2 := specIsPolygon_fn b
  rw [polyB_t ha.poly] at c1
  rw [polyB_t hb.poly] at c2
  have hab := five_mul ha.five hb.five
  have l1 := ha.five
  have l2 := hb.five
  have hab' : (a.length : Int) * (b.length : Int) ≤ 25 := by exact_mod_cast hab
  have hab0 : (0 : Int) ≤ (a.length : Int) * (b.length : Int) := Int.mul_nonneg (by omega) (by omega)
  have d0 := decide_eq_false (p := (a.length : Int) * (b.length : Int) > 64) (by omega)
  refine fn_enter tabOK mixes Tryz.func70 rfl rfl _ Tryz.ntmps70 _ Tryz.results70 (by simp) fun hwf => ?_
  try simp (config := { maxSteps := 10000000 }) only [go_sem]
  repeat (refine And.intro (by first | omega | (constructor <;> omega) | kernel_rfl) ?_)
  refine CallW.mk (c1) ?_
  try simp (config := { maxSteps := 10000000 }) only [go_sem]
  repeat (refine And.intro (by first | omega | (constructor <;> omega) | kernel_rfl) ?_)
  refine CallW.mk (c2) ?_
  try simp (config := { maxSteps := 10000000 }) only [go_sem]
  repeat (refine And.intro (by first | omega | (constructor <;> omega) | kernel_rfl) ?_)
  try simp (config := { maxSteps := 10000000 }) only [go_sem, d0]
  refine LoopG.intro _ _ _ (fun i : Nat => ⟨[(1, .sl tVec b), (5, .row 0 0), (28, .sl tVec a), (29, .sc (.int .i64 a.length)), (30, .sc (.int .i64 i))], [(0, .row 113 tVec 0 true (smI a b i))]⟩) (fun i => i ≤ a.length) (fun i => a.length - i) 0 ?_ (Nat.zero_le _) ?_
  · refine Wk.mk [] ?_
    try simp (config := { maxSteps := 10000000 }) only [go_sem]
    try (and_intros <;> first | rfl | omega | exact ⟨_, rfl⟩)
  · rintro i hi
    try simp (config := { maxSteps := 10000000 }) only [go_sem]
    refine CondW_dec (fun hA => ?_) (fun hA => ?_)
    · have hlt : i < a.length := by omega
      have h25 := five_mul (i := i) (n := b.length) (by omega) l2
      obtain ⟨q1, q2, q3, q4⟩ := okV_b (ha.ok _ (nth_mem hlt))
      rw [← smJ_0]
      try simp (config := { maxSteps := 10000000 }) only [go_sem]
      repeat (refine And.intro (by first | omega | (constructor <;> omega) | kernel_rfl) ?_)
      refine LoopG.intro _ _ _ (fun j : Nat => ⟨[(1, .sl tVec b), (5, .row 0 0), (7, .ptr 1 0), (28, .sl tVec a), (29, .sc (.int .i64 a.length)), (30, .sc (.int .i64 i)), (34, .sl tVec b), (35, .sc (.int .i64 b.length)), (36, .sc (.int .i64 j))], [(1, .box [.sc (.int .i64 (nth (t := tVec) a i).1), .sc (.int .i64 (nth (t := tVec) a i).2)]), (0, .row 113 tVec 0 true (smJ a b i j))]⟩) (fun j => j ≤ b.length) (fun j => b.length - j) 0 ?_ (Nat.zero_le _) ?_
      · refine Wk.mk [] ?_
        try simp (config := { maxSteps := 10000000 }) only [go_sem]
        try (and_intros <;> first | rfl | omega | exact ⟨_, rfl⟩)
      · rintro j hj
        try simp (config := { maxSteps := 10000000 }) only [go_sem]
        refine CondW_dec (fun hB => ?_) (fun hB => ?_)
        · have hlt2 : j < b.length := by omega
          have hml := smJ_len (a := a) (b := b) (i := i) (j := j) (by omega) (by omega)
          have e := smJ_step (a := a) (b := b) (i := i) hlt2
          obtain ⟨b1, b2, b3, b4⟩ := okV_b (hb.ok _ (nth_mem hlt2))
          try simp (config := { maxSteps := 10000000 }) only [go_sem, hml]
          repeat (refine And.intro (by first | omega | (constructor <;> omega) | kernel_rfl) ?_)
          try simp (config := { maxSteps := 10000000 }) only [go_sem, hml]
          repeat (refine And.intro (by first | omega | (constructor <;> omega) | kernel_rfl) ?_)
          refine LoopK.mk (j + 1) ?_ (by omega) (by omega)
          rw [e]
          refine Wk.mk [] ?_
          try simp (config := { maxSteps := 10000000 }) only [go_sem]
          try (and_intros <;> first | rfl | omega | exact ⟨_, rfl⟩)
          all_goals (first | exact ⟨by omega, rfl⟩ | exact ⟨rfl, rfl⟩)
        · rw [smJ_all hlt (by omega)]
          try simp (config := { maxSteps := 10000000 }) only [go_sem]
          repeat (refine And.intro (by first | omega | (constructor <;> omega) | kernel_rfl) ?_)
          refine LoopK.mk (i + 1) ?_ (by omega) (by omega)
          refine Wk.mk [] ?_
          try simp (config := { maxSteps := 10000000 }) only [go_sem]
          try (and_intros <;> first | rfl | omega | exact ⟨_, rfl⟩)
    · rw [smI_all (by omega)]
      have hp := ha.sum hb hkm
      have hsl := smV_len a b
      have pos : 0 < (smV a b).length := by
        rw [hsl]
        have := ha.poly.1.1
        have := hb.poly.1.1
        exact Nat.mul_pos (by omega) (by omega)
      have c4 := specHull_fn (smV a b) (ha.sum_ok hb hkm) (by omega)
      have c5 := specIsPolygon_fn (hullD (smV a b))
      rw [polyB_t hp] at c5
      try simp (config := { maxSteps := 10000000 }) only [go_sem]
      repeat (refine And.intro (by first | omega | (constructor <;> omega) | kernel_rfl) ?_)
      refine CallW.mk (c4) ?_
      try simp (config := { maxSteps := 10000000 }) only [go_sem]
      repeat (refine And.intro (by first | omega | (constructor <;> omega) | kernel_rfl) ?_)
      refine CallW.mk (c5) ?_
      try simp (config := { maxSteps := 10000000 }) only [go_sem]
/-- What a robot blocks. -/
def obsD (r o : List DV) : List DV := hullD (smV o (r.map negV))
theorem ObstacleForI_fn {k m : Int} (r o : List DV) (hr : SmP k r) (ho : SmP m o) (hkm : m + k ≤ 1000) : Fn Tryz.prog 84 [⟨.slice tVec, r⟩, ⟨.slice tVec, o⟩] true [⟨.slice tVec, obsD r o⟩] := by
  have c1 := NegatePolygonI_fn r hr.ok (by have := hr.five; omega)
  have c2 := SumPolygonsI_fn o (r.map negV) ho hr.neg hkm
  unfold obsD
  refine fn_enter tabOK mixes Tryz.func84 rfl rfl _ Tryz.ntmps84 _ Tryz.results84 (by simp) fun hwf => ?_
  try simp (config := { maxSteps := 10000000 }) only [go_sem]
  repeat (refine And.intro (by first | omega | (constructor <;> omega) | kernel_rfl) ?_)
  refine CallW.mk (c1) ?_
  try simp (config := { maxSteps := 10000000 }) only [go_sem]
  repeat (refine And.intro (by first | omega | (constructor <;> omega) | kernel_rfl) ?_)
  refine CallW.mk (c2) ?_
  try simp (config := { maxSteps := 10000000 }) only [go_sem]
theorem ObstacleForS_fn {k m : Int} (r o : List DV) (hr : SmP k r) (ho : SmP m o) (hkm : m + k ≤ 1000) : Fn Tryz.prog 34 [⟨.slice tVec, r⟩, ⟨.slice tVec, o⟩] true [⟨.slice tVec, obsD r o⟩] := by
  have c1 := NegatePolygonS_fn r hr.ok (by have := hr.five; omega)
  have c2 := SumPolygonsS_fn o (r.map negV) ho hr.neg hkm
  unfold obsD
  refine fn_enter tabOK mixes Tryz.func34 rfl rfl _ Tryz.ntmps34 _ Tryz.results34 (by simp) fun hwf => ?_
  try simp (config := { maxSteps := 10000000 }) only [go_sem]
  repeat (refine And.intro (by first | omega | (constructor <;> omega) | kernel_rfl) ?_)
  refine CallW.mk (c1) ?_
  try simp (config := { maxSteps := 10000000 }) only [go_sem]
  repeat (refine And.intro (by first | omega | (constructor <;> omega) | kernel_rfl) ?_)
  refine CallW.mk (c2) ?_
  try simp (config := { maxSteps := 10000000 }) only [go_sem]
theorem obs_poly {k m : Int} {r o : List DV} (hr : SmP k r) (ho : SmP m o) (hkm : m + k ≤ 1000) : polyP (obsD r o) := ho.sum hr.neg hkm
/-- Where a point is of a polygon. -/
noncomputable def cpD (l : List DV) (p : DP) : Int := if okPt p then cntI l p l.length else -1
theorem ContainsI_fn (l : List DV) (p : DP) (hl : polyP l) : Fn Tryz.prog 86 [⟨.slice tVec, l⟩, ⟨tPoint, p⟩] false [⟨.int, cpD l p⟩] := by
  have c1 := implIsPolygon_fn l
  rw [polyB_t hl] at c1
  have c2 := arePoints1_fn p
  have hn := hl.1.2
  unfold cpD
  cases h : okPt p <;> rw [h] at c2
  · rw [if_neg (by decide)]
    refine fn_enter tabOK mixes Tryz.func86 rfl rfl _ Tryz.ntmps86 _ Tryz.results86 (by simp) fun hwf => ?_
    try simp (config := { maxSteps := 10000000 }) only [go_sem]
    repeat (refine And.intro (by first | omega | (constructor <;> omega) | kernel_rfl) ?_)
    refine CallW.mk (c1) ?_
    try simp (config := { maxSteps := 10000000 }) only [go_sem]
    repeat (refine And.intro (by first | omega | (constructor <;> omega) | kernel_rfl) ?_)
    refine CallW.mk (c2) ?_
    try simp (config := { maxSteps := 10000000 }) only [go_sem]
    all_goals repeat (refine And.intro (by first | omega | (constructor <;> omega) | kernel_rfl) ?_)
    all_goals first | kernel_rfl | omega | rfl
  · rw [if_pos rfl]
    have c3 := contains_fn l p hl.2.1 (by omega) h
    refine fn_enter tabOK mixes Tryz.func86 rfl rfl _ Tryz.ntmps86 _ Tryz.results86 (by simp) fun hwf => ?_
    try simp (config := { maxSteps := 10000000 }) only [go_sem]
    repeat (refine And.intro (by first | omega | (constructor <;> omega) | kernel_rfl) ?_)
    refine CallW.mk (c1) ?_
    try simp (config := { maxSteps := 10000000 }) only [go_sem]
    repeat (refine And.intro (by first | omega | (constructor <;> omega) | kernel_rfl) ?_)
    refine CallW.mk (c2) ?_
    try simp (config := { maxSteps := 10000000 }) only [go_sem]
    repeat (refine And.intro (by first | omega | (constructor <;> omega) | kernel_rfl) ?_)
    refine CallW.mk (c3) ?_
    try simp (config := { maxSteps := 10000000 }) only [go_sem]
    all_goals repeat (refine And.intro (by first | omega | (constructor <;> omega) | kernel_rfl) ?_)
    all_goals first | kernel_rfl | omega | rfl
theorem ContainsS_fn (l : List DV) (p : DP) (hl : polyP l) : Fn Tryz.prog 36 [⟨.slice tVec, l⟩, ⟨tPoint, p⟩] false [⟨.int, cpD l p⟩] := by
  have c1 := specIsPolygon_fn l
  rw [polyB_t hl] at c1
  have c2 := specIsValidPoint_fn p
  have hn := hl.1.2
  unfold cpD
  cases h : okPt p <;> rw [h] at c2
  · rw [if_neg (by decide)]
    refine fn_enter tabOK mixes Tryz.func36 rfl rfl _ Tryz.ntmps36 _ Tryz.results36 (by simp) fun hwf => ?_
    try simp (config := { maxSteps := 10000000 }) only [go_sem]
    repeat (refine And.intro (by first | omega | (constructor <;> omega) | kernel_rfl) ?_)
    refine CallW.mk (c1) ?_
    try simp (config := { maxSteps := 10000000 }) only [go_sem]
    repeat (refine And.intro (by first | omega | (constructor <;> omega) | kernel_rfl) ?_)
    refine CallW.mk (c2) ?_
    try simp (config := { maxSteps := 10000000 }) only [go_sem]
    all_goals repeat (refine And.intro (by first | omega | (constructor <;> omega) | kernel_rfl) ?_)
    all_goals first | kernel_rfl | omega | rfl
  · rw [if_pos rfl]
    refine fn_enter tabOK mixes Tryz.func36 rfl rfl _ Tryz.ntmps36 _ Tryz.results36 (by simp) fun hwf => ?_
    try simp (config := { maxSteps := 10000000 }) only [go_sem]
    repeat (refine And.intro (by first | omega | (constructor <;> omega) | kernel_rfl) ?_)
    refine CallW.mk (c1) ?_
    try simp (config := { maxSteps := 10000000 }) only [go_sem]
    repeat (refine And.intro (by first | omega | (constructor <;> omega) | kernel_rfl) ?_)
    refine CallW.mk (c2) ?_
    try simp (config := { maxSteps := 10000000 }) only [go_sem]
    refine LoopG.intro _ _ _ (fun i : Nat => ⟨[(0, .sl tVec l), (3, .ptr 0 0), (5, .sc (.int .i64 (cntI l p i))), (17, .sl tVec l), (18, .sc (.int .i64 l.length)), (19, .sc (.int .i64 i))], [(0, .box (cel tPoint p))]⟩) (fun i => i ≤ l.length) (fun i => l.length - i) 0 ?_ (Nat.zero_le _) ?_
    · refine Wk.mk [] ?_
      try simp (config := { maxSteps := 10000000 }) only [go_sem]
      try (and_intros <;> first | rfl | omega | exact ⟨_, rfl⟩)
    · rintro i hi
      try simp (config := { maxSteps := 10000000 }) only [go_sem]
      refine CondW_dec (fun hA => ?_) (fun hA => ?_)
      · have hlt : i < l.length := by omega
        have hr := nxt_rng (n := l.length) (i := i) (by omega)
        have hr2 : (nxt l.length i).toNat < l.length := by omega
        have c3 := PointOfS_fn (nth (t := tVec) l i)
        have c4 := PointOfS_fn (nth (t := tVec) l (nxt l.length i).toNat)
        have c5 := specSide_fn (ptV (nth (t := tVec) l i)) (ptV (nth (t := tVec) l (nxt l.length i).toNat)) p
        unfold nxt at hr hr2 c4 c5
        have hst : cntI l p (i + 1) = min (cntI l p i) (sdP (ptV (nth (t := tVec) l i)) (ptV (nth (t := tVec) l (((i : Int) + 1) % (l.length : Int)).toNat)) p) := rfl
        try simp (config := { maxSteps := 10000000 }) only [go_sem]
        repeat (refine And.intro (by first | omega | (constructor <;> omega) | kernel_rfl) ?_)
        repeat (refine And.intro (by first | omega | (constructor <;> omega) | kernel_rfl) ?_)
        refine CallW.mk (c3) ?_
        try simp (config := { maxSteps := 10000000 }) only [go_sem]
        repeat (refine And.intro (by first | omega | (constructor <;> omega) | kernel_rfl) ?_)
        refine RemW.pos (by omega) (by omega) ?_
        try simp (config := { maxSteps := 10000000 }) only [go_sem]
        repeat (refine And.intro (by first | omega | (constructor <;> omega) | kernel_rfl) ?_)
        repeat (refine And.intro (by first | omega | (constructor <;> omega) | kernel_rfl) ?_)
        refine CallW.mk (c4) ?_
        try simp (config := { maxSteps := 10000000 }) only [go_sem]
        repeat (refine And.intro (by first | omega | (constructor <;> omega) | kernel_rfl) ?_)
        refine CallW.mk (c5) ?_
        try simp (config := { maxSteps := 10000000 }) only [go_sem]
        repeat (refine And.intro (by first | omega | (constructor <;> omega) | kernel_rfl) ?_)
        refine CondW_dec (fun hB => ?_) (fun hB => ?_)
        · rw [Int.min_eq_right (by omega)] at hst
          try simp (config := { maxSteps := 10000000 }) only [go_sem]
          repeat (refine And.intro (by first | omega | (constructor <;> omega) | kernel_rfl) ?_)
          refine LoopK.mk (i + 1) ?_ (by omega) (by omega)
          rw [hst]
          refine Wk.mk [] ?_
          try simp (config := { maxSteps := 10000000 }) only [go_sem]
          try (and_intros <;> first | rfl | omega | exact ⟨_, rfl⟩)
        · rw [Int.min_eq_left (by omega)] at hst
          try simp (config := { maxSteps := 10000000 }) only [go_sem]
          repeat (refine And.intro (by first | omega | (constructor <;> omega) | kernel_rfl) ?_)
          refine LoopK.mk (i + 1) ?_ (by omega) (by omega)
          rw [hst]
          refine Wk.mk [] ?_
          try simp (config := { maxSteps := 10000000 }) only [go_sem]
          try (and_intros <;> first | rfl | omega | exact ⟨_, rfl⟩)
      · rw [show l.length = i by omega]
        try simp (config := { maxSteps := 10000000 }) only [go_sem]
        all_goals repeat (refine And.intro (by first | omega | (constructor <;> omega) | kernel_rfl) ?_)
        all_goals first | kernel_rfl | omega | rfl
end Go.Proofs.YtghckbohaghgkaaGreat.DW

/-
  Lists of numbers, fractions and points are compared.
-/
namespace Go.Proofs.YtghckbohaghgkaaGreat
open Go.RowKit

set_option maxHeartbeats 400000 in
theorem l04List_any (va vb : Value) (a b : DIntS) (w : World) (ha : Has RIntS w [va] a) (hb : Has RIntS w [vb] b) :
    Calls Tryz.prog 178 #[va, vb] w (Post (EqPost a b w)) := by
  obtain ⟨aa, ca, rfl, la, ma, ga⟩ := ha.elems
  obtain ⟨ab, cb, rfl, lb, mb, gb⟩ := hb.elems
  unfold maxLen at ma mb
  have HA := Lib.hid ga; have HB := Lib.hid gb; clear ga gb ha hb
  by_cases hl : a.length = b.length
  rotate_left
  · have hn : ((a.length : Int) != (b.length : Int)) = true := by simp; omega
    have HL := Lib.hid hl; clear hl
    go_enter Tryz.func178, Tryz.ntmps178
    go_wp2
    go_ret
    exact ⟨_, rfl, congrArg Value.bool (eqb_false fun h => HL.out (by rw [h])).symm, Below.refl _ _⟩
  have hn : ((a.length : Int) != (b.length : Int)) = false := by simp; omega
  have HL := Lib.hid hl; clear hl
  go_enter Tryz.func178, Tryz.ntmps178
  go_wp2
  go_loopw [13] (fun i wr => ∃ k : Nat, k ≤ a.length ∧ i = .int .i64 k ∧ a.take k = b.take k ∧ Below w.heap.size w wr) (fun i _ => a.length - (intOf i).toNat)
  case atStart => exact ⟨0, Nat.zero_le _, rfl, rfl, Below.refl _ _⟩
  case round =>
    obtain ⟨k, hk, rfl, htk, hbw⟩ := hrel
    have HT := Lib.hid htk; clear htk
    by_cases hlt : k < a.length
    rotate_left
    · go_wp2
      go_ret
      exact ⟨_, rfl, congrArg Value.bool (eqb_true (by have h1 := HT.out; have h2 := HL.out; rwa [List.take_of_length_le (by omega), List.take_of_length_le (by omega)] at h1)).symm, hbw⟩
    have hlt' : k < b.length := by have := HL.out; omega
    obtain ⟨b1, o1, cs1, rfl, hbl, hx, hcs⟩ := HA.out k hlt
    obtain ⟨b2, o2, cs2, rfl, hbl2, hy, hds⟩ := HB.out k hlt'
    obtain ⟨c0, rfl⟩ := list1 hx.len
    obtain ⟨d0, rfl⟩ := list1 hy.len
    obtain rfl := hx.int.1
    obtain rfl := hy.int.1
    have g0 : wr.cell? ⟨b1, o1 + k, none⟩ = some (.int .i64 a[k]) := (hbw.cell (p := ⟨b1, _, none⟩) hbl).trans (by simpa [Rp.int] using hcs 0 _ rfl)
    have e0 : wr.cell? ⟨b2, o2 + k, none⟩ = some (.int .i64 b[k]) := (hbw.cell (p := ⟨b2, _, none⟩) hbl2).trans (by simpa [Rp.int] using hds 0 _ rfl)
    clear hcs hds hx hy
    by_cases hab : a[k] = b[k]
    · have hn : (a[k] != b[k]) = false := by simp [hab]
      have HAB := Lib.hid hab; clear hab
      go_wp2
      go_quiet (fail)
      go_wp2
      go_roundw
      case rel => exact ⟨k + 1, by omega, by go_num, by rw [List.take_succ_eq_append_getElem hlt, List.take_succ_eq_append_getElem hlt', HT.out, HAB.out], hbw.drewN _⟩
      case measure => simp [intOf]; omega
    · have hn : (a[k] != b[k]) = true := by simp [hab]
      have HAB := Lib.hid hab; clear hab
      go_wp2
      go_quiet (fail)
      go_wp2
      go_ret
      exact ⟨_, rfl, congrArg Value.bool (eqb_false fun h => HAB.out (by subst h; rfl)).symm, hbw.drewN _⟩
set_option maxHeartbeats 400000 in
theorem slicesEqual_any (va vb : Value) (a b : DIntS) (w : World) (ha : Has RIntS w [va] a) (hb : Has RIntS w [vb] b) :
    Calls Tryz.prog 182 #[va, vb] w (Post (EqPost a b w)) := by
  obtain ⟨aa, ca, rfl, la, ma, ga⟩ := ha.elems
  obtain ⟨ab, cb, rfl, lb, mb, gb⟩ := hb.elems
  unfold maxLen at ma mb
  have HA := Lib.hid ga; have HB := Lib.hid gb; clear ga gb ha hb
  by_cases hl : a.length = b.length
  rotate_left
  · have hn : ((a.length : Int) != (b.length : Int)) = true := by simp; omega
    have HL := Lib.hid hl; clear hl
    go_enter Tryz.func182, Tryz.ntmps182
    go_wp2
    go_ret
    exact ⟨_, rfl, congrArg Value.bool (eqb_false fun h => HL.out (by rw [h])).symm, Below.refl _ _⟩
  have hn : ((a.length : Int) != (b.length : Int)) = false := by simp; omega
  have HL := Lib.hid hl; clear hl
  go_enter Tryz.func182, Tryz.ntmps182
  go_wp2
  go_loopw [13] (fun i wr => ∃ k : Nat, k ≤ a.length ∧ i = .int .i64 k ∧ a.take k = b.take k ∧ Below w.heap.size w wr) (fun i _ => a.length - (intOf i).toNat)
  case atStart => exact ⟨0, Nat.zero_le _, rfl, rfl, Below.refl _ _⟩
  case round =>
    obtain ⟨k, hk, rfl, htk, hbw⟩ := hrel
    have HT := Lib.hid htk; clear htk
    by_cases hlt : k < a.length
    rotate_left
    · go_wp2
      go_ret
      exact ⟨_, rfl, congrArg Value.bool (eqb_true (by have h1 := HT.out; have h2 := HL.out; rwa [List.take_of_length_le (by omega), List.take_of_length_le (by omega)] at h1)).symm, hbw⟩
    have hlt' : k < b.length := by have := HL.out; omega
    obtain ⟨b1, o1, cs1, rfl, hbl, hx, hcs⟩ := HA.out k hlt
    obtain ⟨b2, o2, cs2, rfl, hbl2, hy, hds⟩ := HB.out k hlt'
    obtain ⟨c0, rfl⟩ := list1 hx.len
    obtain ⟨d0, rfl⟩ := list1 hy.len
    obtain rfl := hx.int.1
    obtain rfl := hy.int.1
    have g0 : wr.cell? ⟨b1, o1 + k, none⟩ = some (.int .i64 a[k]) := (hbw.cell (p := ⟨b1, _, none⟩) hbl).trans (by simpa [Rp.int] using hcs 0 _ rfl)
    have e0 : wr.cell? ⟨b2, o2 + k, none⟩ = some (.int .i64 b[k]) := (hbw.cell (p := ⟨b2, _, none⟩) hbl2).trans (by simpa [Rp.int] using hds 0 _ rfl)
    clear hcs hds hx hy
    by_cases hab : a[k] = b[k]
    · have hn : (a[k] != b[k]) = false := by simp [hab]
      have HAB := Lib.hid hab; clear hab
      go_wp2
      go_quiet (fail)
      go_wp2
      go_roundw
      case rel => exact ⟨k + 1, by omega, by go_num, by rw [List.take_succ_eq_append_getElem hlt, List.take_succ_eq_append_getElem hlt', HT.out, HAB.out], hbw.drewN _⟩
      case measure => simp [intOf]; omega
    · have hn : (a[k] != b[k]) = true := by simp [hab]
      have HAB := Lib.hid hab; clear hab
      go_wp2
      go_quiet (fail)
      go_wp2
      go_ret
      exact ⟨_, rfl, congrArg Value.bool (eqb_false fun h => HAB.out (by subst h; rfl)).symm, hbw.drewN _⟩
set_option maxRecDepth 100000 in
set_option maxHeartbeats 400000 in
theorem specRatEqual_any (c0 c1 c2 d0 d1 d2 : Value) (x y : DRat) (w : World) (hx : Has RRat w [c0, c1, c2] x) (hy : Has RRat w [d0, d1, d2] y) :
    Calls Tryz.prog 132 #[.agg #[c0, c1, c2], .agg #[d0, d1, d2]] w (Post (EqPost x y w)) := by
  obtain ⟨hx0, hx1⟩ := hx.split [c0, c1] [c2] rfl
  obtain ⟨hx00, hx01⟩ := hx0.split [c0] [c1] rfl
  obtain ⟨hy0, hy1⟩ := hy.split [d0, d1] [d2] rfl
  obtain ⟨hy00, hy01⟩ := hy0.split [d0] [d1] rfl
  obtain rfl := hx00.bool
  obtain rfl := hy00.bool
  have HX1 := Lib.hid hx1; have HX2 := Lib.hid hx01; have HY1 := Lib.hid hy1; have HY2 := Lib.hid hy01
  clear hx hy hx0 hx1 hy0 hy1 hx00 hx01 hy00 hy01
  have hb0 := ((Below.refl w.heap.size w).alloc (Nat.le_refl _) (Obj.cells #[.bool x.1.1, c1, c2] 40)).alloc (by simp <;> omega) (Obj.cells #[.bool y.1.1, d1, d2] 40)
  by_cases he0 : x.1.1 = y.1.1
  rotate_left
  · have hn : (x.1.1 == y.1.1) = false := by simp [he0]
    have HN := Lib.hid he0; clear he0
    go_enter Tryz.func132, Tryz.ntmps132
    go_wp2
    go_ret
    exact ⟨_, rfl, congrArg Value.bool (eqb_false fun h => HN.out (by rw [h])).symm, hb0⟩
  have hn0 : (x.1.1 == y.1.1) = true := by simp [he0]
  have HE0 := Lib.hid he0; clear he0
  go_enter Tryz.func132, Tryz.ntmps132
  go_wp2_with fail
  refine (l04List_any _ _ _ _ _ (HX2.out.below hb0) (HY2.out.below hb0)).mono ?_
  rintro e w1 ⟨v, rfl, rfl, hbx1⟩
  have hb1 := Below.up hb0 hbx1 hb0.size
  obtain ⟨hc1, hf1⟩ := bcell hbx1
  by_cases he1 : x.1.2 = y.1.2
  rotate_left
  · rw [eqb_false he1]
    have HN := Lib.hid he1; clear he1
    go_wp2
    go_ret
    exact ⟨_, rfl, congrArg Value.bool (eqb_false fun h => HN.out (by rw [h])).symm, hb1⟩
  rw [eqb_true he1]
  have HE1 := Lib.hid he1; clear he1
  go_wp2_with fail
  refine (l04List_any _ _ _ _ _ (HX1.out.below hb1) (HY1.out.below hb1)).mono ?_
  rintro e w2 ⟨v, rfl, rfl, hbx2⟩
  have hb2 := Below.up hb1 hbx2 hb1.size
  by_cases he2 : x.2 = y.2
  rotate_left
  · rw [eqb_false he2]
    have HN := Lib.hid he2; clear he2
    go_wp2
    go_ret
    exact ⟨_, rfl, congrArg Value.bool (eqb_false fun h => HN.out (by rw [h])).symm, hb2⟩
  rw [eqb_true he2]
  have HE2 := Lib.hid he2; clear he2
  go_wp2
  go_ret
  exact ⟨_, rfl, congrArg Value.bool (eqb_true (Prod.ext (Prod.ext HE0.out HE1.out) HE2.out)).symm, hb2⟩
set_option maxRecDepth 100000 in
set_option maxHeartbeats 400000 in
theorem implRatEqual_any (c0 c1 c2 d0 d1 d2 : Value) (x y : DRat) (w : World) (hx : Has RRat w [c0, c1, c2] x) (hy : Has RRat w [d0, d1, d2] y) :
    Calls Tryz.prog 138 #[.agg #[c0, c1, c2], .agg #[d0, d1, d2]] w (Post (EqPost x y w)) := by
  obtain ⟨hx0, hx1⟩ := hx.split [c0, c1] [c2] rfl
  obtain ⟨hx00, hx01⟩ := hx0.split [c0] [c1] rfl
  obtain ⟨hy0, hy1⟩ := hy.split [d0, d1] [d2] rfl
  obtain ⟨hy00, hy01⟩ := hy0.split [d0] [d1] rfl
  obtain rfl := hx00.bool
  obtain rfl := hy00.bool
  have HX1 := Lib.hid hx1; have HX2 := Lib.hid hx01; have HY1 := Lib.hid hy1; have HY2 := Lib.hid hy01
  clear hx hy hx0 hx1 hy0 hy1 hx00 hx01 hy00 hy01
  have hb0 := ((Below.refl w.heap.size w).alloc (Nat.le_refl _) (Obj.cells #[.bool x.1.1, c1, c2] 40)).alloc (by simp <;> omega) (Obj.cells #[.bool y.1.1, d1, d2] 40)
  by_cases he0 : x.1.1 = y.1.1
  rotate_left
  · have hn : (x.1.1 == y.1.1) = false := by simp [he0]
    have HN := Lib.hid he0; clear he0
    go_enter Tryz.func138, Tryz.ntmps138
    go_wp2
    go_ret
    exact ⟨_, rfl, congrArg Value.bool (eqb_false fun h => HN.out (by rw [h])).symm, hb0⟩
  have hn0 : (x.1.1 == y.1.1) = true := by simp [he0]
  have HE0 := Lib.hid he0; clear he0
  go_enter Tryz.func138, Tryz.ntmps138
  go_wp2_with fail
  refine (slicesEqual_any _ _ _ _ _ (HX2.out.below hb0) (HY2.out.below hb0)).mono ?_
  rintro e w1 ⟨v, rfl, rfl, hbx1⟩
  have hb1 := Below.up hb0 hbx1 hb0.size
  obtain ⟨hc1, hf1⟩ := bcell hbx1
  by_cases he1 : x.1.2 = y.1.2
  rotate_left
  · rw [eqb_false he1]
    have HN := Lib.hid he1; clear he1
    go_wp2
    go_ret
    exact ⟨_, rfl, congrArg Value.bool (eqb_false fun h => HN.out (by rw [h])).symm, hb1⟩
  rw [eqb_true he1]
  have HE1 := Lib.hid he1; clear he1
  go_wp2_with fail
  refine (slicesEqual_any _ _ _ _ _ (HX1.out.below hb1) (HY1.out.below hb1)).mono ?_
  rintro e w2 ⟨v, rfl, rfl, hbx2⟩
  have hb2 := Below.up hb1 hbx2 hb1.size
  by_cases he2 : x.2 = y.2
  rotate_left
  · rw [eqb_false he2]
    have HN := Lib.hid he2; clear he2
    go_wp2
    go_ret
    exact ⟨_, rfl, congrArg Value.bool (eqb_false fun h => HN.out (by rw [h])).symm, hb2⟩
  rw [eqb_true he2]
  have HE2 := Lib.hid he2; clear he2
  go_wp2
  go_ret
  exact ⟨_, rfl, congrArg Value.bool (eqb_true (Prod.ext (Prod.ext HE0.out HE1.out) HE2.out)).symm, hb2⟩
set_option maxRecDepth 100000 in
set_option maxHeartbeats 400000 in
theorem specSamePoint_any (c0 c1 c2 c3 c4 c5 d0 d1 d2 d3 d4 d5 : Value) (x y : DPoint) (w : World) (hx : Has RPoint w [c0, c1, c2, c3, c4, c5] x) (hy : Has RPoint w [d0, d1, d2, d3, d4, d5] y) :
    Calls Tryz.prog 93 #[.agg #[c0, c1, c2, c3, c4, c5], .agg #[d0, d1, d2, d3, d4, d5]] w (Post (EqPost x y w)) := by
  obtain ⟨hx0, hx1⟩ := hx.split [c0, c1, c2] [c3, c4, c5] rfl
  obtain ⟨hy0, hy1⟩ := hy.split [d0, d1, d2] [d3, d4, d5] rfl
  have HX0 := Lib.hid hx0; have HX1 := Lib.hid hx1; have HY0 := Lib.hid hy0; have HY1 := Lib.hid hy1
  clear hx hy hx0 hx1 hy0 hy1
  have hb0 := ((Below.refl w.heap.size w).alloc (Nat.le_refl _) (Obj.cells #[c0, c1, c2, c3, c4, c5] 42)).alloc (by simp <;> omega) (Obj.cells #[d0, d1, d2, d3, d4, d5] 42)
  go_enter Tryz.func93, Tryz.ntmps93
  go_wp2_with fail
  refine (specRatEqual_any _ _ _ _ _ _ _ _ _ (HX0.out.below hb0) (HY0.out.below hb0)).mono ?_
  rintro e w1 ⟨v, rfl, rfl, hbx1⟩
  have hb1 := Below.up hb0 hbx1 hb0.size
  obtain ⟨hc1, hf1⟩ := bcell hbx1
  by_cases he1 : x.1 = y.1
  rotate_left
  · rw [eqb_false he1]
    have HN := Lib.hid he1; clear he1
    go_wp2
    go_ret
    exact ⟨_, rfl, congrArg Value.bool (eqb_false fun h => HN.out (by rw [h])).symm, hb1⟩
  rw [eqb_true he1]
  have HE1 := Lib.hid he1; clear he1
  go_wp2_with fail
  refine (specRatEqual_any _ _ _ _ _ _ _ _ _ (HX1.out.below hb1) (HY1.out.below hb1)).mono ?_
  rintro e w2 ⟨v, rfl, rfl, hbx2⟩
  have hb2 := Below.up hb1 hbx2 hb1.size
  by_cases he2 : x.2 = y.2
  rotate_left
  · rw [eqb_false he2]
    have HN := Lib.hid he2; clear he2
    go_wp2
    go_ret
    exact ⟨_, rfl, congrArg Value.bool (eqb_false fun h => HN.out (by rw [h])).symm, hb2⟩
  rw [eqb_true he2]
  have HE2 := Lib.hid he2; clear he2
  go_wp2
  go_ret
  exact ⟨_, rfl, congrArg Value.bool (eqb_true (Prod.ext HE1.out HE2.out)).symm, hb2⟩
set_option maxRecDepth 100000 in
set_option maxHeartbeats 400000 in
theorem implSamePoint_any (c0 c1 c2 c3 c4 c5 d0 d1 d2 d3 d4 d5 : Value) (x y : DPoint) (w : World) (hx : Has RPoint w [c0, c1, c2, c3, c4, c5] x) (hy : Has RPoint w [d0, d1, d2, d3, d4, d5] y) :
    Calls Tryz.prog 98 #[.agg #[c0, c1, c2, c3, c4, c5], .agg #[d0, d1, d2, d3, d4, d5]] w (Post (EqPost x y w)) := by
  obtain ⟨hx0, hx1⟩ := hx.split [c0, c1, c2] [c3, c4, c5] rfl
  obtain ⟨hy0, hy1⟩ := hy.split [d0, d1, d2] [d3, d4, d5] rfl
  have HX0 := Lib.hid hx0; have HX1 := Lib.hid hx1; have HY0 := Lib.hid hy0; have HY1 := Lib.hid hy1
  clear hx hy hx0 hx1 hy0 hy1
  have hb0 := ((Below.refl w.heap.size w).alloc (Nat.le_refl _) (Obj.cells #[c0, c1, c2, c3, c4, c5] 42)).alloc (by simp <;> omega) (Obj.cells #[d0, d1, d2, d3, d4, d5] 42)
  go_enter Tryz.func98, Tryz.ntmps98
  go_wp2_with fail
  refine (implRatEqual_any _ _ _ _ _ _ _ _ _ (HX0.out.below hb0) (HY0.out.below hb0)).mono ?_
  rintro e w1 ⟨v, rfl, rfl, hbx1⟩
  have hb1 := Below.up hb0 hbx1 hb0.size
  obtain ⟨hc1, hf1⟩ := bcell hbx1
  by_cases he1 : x.1 = y.1
  rotate_left
  · rw [eqb_false he1]
    have HN := Lib.hid he1; clear he1
    go_wp2
    go_ret
    exact ⟨_, rfl, congrArg Value.bool (eqb_false fun h => HN.out (by rw [h])).symm, hb1⟩
  rw [eqb_true he1]
  have HE1 := Lib.hid he1; clear he1
  go_wp2_with fail
  refine (implRatEqual_any _ _ _ _ _ _ _ _ _ (HX1.out.below hb1) (HY1.out.below hb1)).mono ?_
  rintro e w2 ⟨v, rfl, rfl, hbx2⟩
  have hb2 := Below.up hb1 hbx2 hb1.size
  by_cases he2 : x.2 = y.2
  rotate_left
  · rw [eqb_false he2]
    have HN := Lib.hid he2; clear he2
    go_wp2
    go_ret
    exact ⟨_, rfl, congrArg Value.bool (eqb_false fun h => HN.out (by rw [h])).symm, hb2⟩
  rw [eqb_true he2]
  have HE2 := Lib.hid he2; clear he2
  go_wp2
  go_ret
  exact ⟨_, rfl, congrArg Value.bool (eqb_true (Prod.ext HE1.out HE2.out)).symm, hb2⟩
end Go.Proofs.YtghckbohaghgkaaGreat

/-
  Tours: validity.
-/
namespace Go.Proofs.YtghckbohaghgkaaGreat.DW
open Go.RowKit
abbrev DT : Type := List DV × (DS × List DS)
theorem implSame_fn (p q : DP) : Fn Tryz.prog 98 [⟨tPoint, p⟩, ⟨tPoint, q⟩] false [⟨.bool, eqb p q⟩] := by
  refine Fn.ofEq (enters Tryz.func98 rfl rfl) fun w v cs u ds hp hx hq hy => ?_
  obtain rfl := pk_agg rfl hp
  obtain ⟨c0, c1, c2, c3, c4, c5, rfl⟩ := list6 hx.len
  obtain rfl := pk_agg rfl hq
  obtain ⟨d0, d1, d2, d3, d4, d5, rfl⟩ := list6 hy.len
  exact implSamePoint_any _ _ _ _ _ _ _ _ _ _ _ _ p q w hx hy
theorem specSame_fn (p q : DP) : Fn Tryz.prog 93 [⟨tPoint, p⟩, ⟨tPoint, q⟩] false [⟨.bool, eqb p q⟩] := by
  refine Fn.ofEq (enters Tryz.func93 rfl rfl) fun w v cs u ds hp hx hq hy => ?_
  obtain rfl := pk_agg rfl hp
  obtain ⟨c0, c1, c2, c3, c4, c5, rfl⟩ := list6 hx.len
  obtain rfl := pk_agg rfl hq
  obtain ⟨d0, d1, d2, d3, d4, d5, rfl⟩ := list6 hy.len
  exact specSamePoint_any _ _ _ _ _ _ _ _ _ _ _ _ p q w hx hy
theorem l22Turn_fn (n : Int) : Fn Tryz.prog 92 [⟨.int, n⟩] false [⟨.bool, decide (-1 ≤ n ∧ n ≤ 1)⟩] := by
  refine fn_enter tabOK mixes Tryz.func92 rfl rfl _ Tryz.ntmps92 _ Tryz.results92 (by simp) fun hwf => ?_
  try simp (config := { maxSteps := 10000000 }) only [go_sem]
  repeat (refine And.intro (by first | omega | (constructor <;> omega) | kernel_rfl) ?_)
  refine CallW.mk (l01In_fn n (-1) 1) ?_
  try simp (config := { maxSteps := 10000000 }) only [go_sem]
/-- A step that a tour may have. -/
noncomputable def tvStep (p x : DS) : Bool := decide (-1 ≤ x.1 ∧ x.1 ≤ 1) && (okPt x.2 && (decide (x.1 = 0) || eqb x.2 p.2))
noncomputable def tvGo : DS → List DS → Bool
  | _, [] => true
  | p, x :: l => tvStep p x && tvGo (stp p x) l
noncomputable def plcF (p : DS) (l : List DS) : DS := l.foldl stp p
/-- The placement behind the first i steps. -/
noncomputable def plcS (p : DS) (l : List DS) (i : Nat) : DS := plcF p (l.take i)
theorem plcS_step (p : DS) {l : List DS} {i : Nat} (h : i < l.length) : plcS p l (i + 1) = stp (plcS p l i) (nth (t := tStep) l i) := by
  unfold plcS plcF
  rw [List.take_succ_eq_append_getElem h, nth_lt h]
  simp only [List.foldl_append, List.foldl_cons, List.foldl_nil]
theorem tvGo_at {p : DS} {l : List DS} {i : Nat} (h : i < l.length) : tvGo p (l.drop i) = (tvStep p (nth (t := tStep) l i) && tvGo (stp p (nth (t := tStep) l i)) (l.drop (i + 1))) := by
  rw [List.drop_eq_getElem_cons h, nth_lt h]; rfl
noncomputable def tourB (t : DT) : Bool := smB t.1 20 && (decide (0 ≤ t.2.1.1 ∧ t.2.1.1 ≤ 3) && (okPt t.2.1.2 && (decide ((t.2.2.length : Int) ≤ 8) && tvGo t.2.1 t.2.2)))
theorem implIsValidTour_fn (t : DT) : Fn Tryz.prog 49 [⟨tTour, t⟩] false [⟨.bool, tourB t⟩] := by
  obtain ⟨r, p, l⟩ := t
  have c1 := isSmall_fn r 20 (by decide)
  have c2 := isHeading_fn p.1
  have c3 := arePoints1_fn p.2
  unfold tourB
  cases h1 : smB r 20 <;> rw [h1] at c1
  · refine fn_enter tabOK mixes Tryz.func49 rfl rfl _ Tryz.ntmps49 _ Tryz.results49 (by simp) fun hwf => ?_
    try simp (config := { maxSteps := 10000000 }) only [go_sem]
    repeat (refine And.intro (by first | omega | (constructor <;> omega) | kernel_rfl) ?_)
    refine CallW.mk (c1) ?_
    try simp (config := { maxSteps := 10000000 }) only [go_sem]
  · cases h2 : decide (0 ≤ p.1 ∧ p.1 ≤ 3) <;> rw [h2] at c2
    · refine fn_enter tabOK mixes Tryz.func49 rfl rfl _ Tryz.ntmps49 _ Tryz.results49 (by simp) fun hwf => ?_
      try simp (config := { maxSteps := 10000000 }) only [go_sem]
      repeat (refine And.intro (by first | omega | (constructor <;> omega) | kernel_rfl) ?_)
      refine CallW.mk (c1) ?_
      try simp (config := { maxSteps := 10000000 }) only [go_sem]
      repeat (refine And.intro (by first | omega | (constructor <;> omega) | kernel_rfl) ?_)
      refine CallW.mk (c2) ?_
      try simp (config := { maxSteps := 10000000 }) only [go_sem]
    · cases h3 : okPt p.2 <;> rw [h3] at c3
      · refine fn_enter tabOK mixes Tryz.func49 rfl rfl _ Tryz.ntmps49 _ Tryz.results49 (by simp) fun hwf => ?_
        try simp (config := { maxSteps := 10000000 }) only [go_sem]
        repeat (refine And.intro (by first | omega | (constructor <;> omega) | kernel_rfl) ?_)
        refine CallW.mk (c1) ?_
        try simp (config := { maxSteps := 10000000 }) only [go_sem]
        repeat (refine And.intro (by first | omega | (constructor <;> omega) | kernel_rfl) ?_)
        refine CallW.mk (c2) ?_
        try simp (config := { maxSteps := 10000000 }) only [go_sem]
        repeat (refine And.intro (by first | omega | (constructor <;> omega) | kernel_rfl) ?_)
        refine CallW.mk (c3) ?_
        try simp (config := { maxSteps := 10000000 }) only [go_sem]
      · by_cases h4 : (l.length : Int) ≤ 8
        · have d4 : decide ((8 : Int) < l.length) = false := decide_eq_false (by omega)
          rw [decide_eq_true h4]
          refine fn_enter tabOK mixes Tryz.func49 rfl rfl _ Tryz.ntmps49 _ Tryz.results49 (by simp) fun hwf => ?_
          try simp (config := { maxSteps := 10000000 }) only [go_sem]
          repeat (refine And.intro (by first | omega | (constructor <;> omega) | kernel_rfl) ?_)
          refine CallW.mk (c1) ?_
          try simp (config := { maxSteps := 10000000 }) only [go_sem]
          repeat (refine And.intro (by first | omega | (constructor <;> omega) | kernel_rfl) ?_)
          refine CallW.mk (c2) ?_
          try simp (config := { maxSteps := 10000000 }) only [go_sem]
          repeat (refine And.intro (by first | omega | (constructor <;> omega) | kernel_rfl) ?_)
          refine CallW.mk (c3) ?_
          try simp (config := { maxSteps := 10000000 }) only [go_sem]
          try simp (config := { maxSteps := 10000000 }) only [go_sem, d4]
          refine LoopG.intro _ _ _ (fun i : Nat => ⟨[(3, .ptr 2 0), (34, .sl tStep l), (35, .sc (.int .i64 l.length)), (36, .sc (.int .i64 i))], [(2, .box [.sc (.int .i64 (plcS p l i).1), .sc (.bool (plcS p l i).2.1.1.1), .sl .int (plcS p l i).2.1.1.2, .sl .int (plcS p l i).2.1.2, .sc (.bool (plcS p l i).2.2.1.1), .sl .int (plcS p l i).2.2.1.2, .sl .int (plcS p l i).2.2.2])]⟩) (fun i => tvGo p l = tvGo (plcS p l i) (l.drop i)) (fun i => l.length - i) 0 ?_ rfl ?_
          · refine Wk.mk [] ?_
            try simp (config := { maxSteps := 10000000 }) only [go_sem]
            try (and_intros <;> first | rfl | omega | exact ⟨_, rfl⟩)
          · rintro i hi
            try simp (config := { maxSteps := 10000000 }) only [go_sem]
            refine CondW_dec (fun hA => ?_) (fun hA => ?_)
            · have hst := plcS_step p (show i < l.length by omega)
              rw [tvGo_at (by omega)] at hi
              have c4 := within_fn (nth (t := tStep) l i).1 (-1) 1
              have c5 := arePoints1_fn (nth (t := tStep) l i).2
              have c6 := implSame_fn (nth (t := tStep) l i).2 (plcS p l i).2
              have c7 := stepped_fn (plcS p l i) (nth (t := tStep) l i)
              generalize hq : plcS p l i = q at hi hst c6 c7 ⊢
              cases e1 : decide (-1 ≤ (nth (t := tStep) l i).1 ∧ (nth (t := tStep) l i).1 ≤ 1) <;> rw [e1] at c4
              · have e0 : tvStep q (nth (t := tStep) l i) = false := by unfold tvStep; rw [e1]; rfl
                rw [e0] at hi
                rw [hi]
                try simp (config := { maxSteps := 10000000 }) only [go_sem]
                repeat (refine And.intro (by first | omega | (constructor <;> omega) | kernel_rfl) ?_)
                repeat (refine And.intro (by first | omega | (constructor <;> omega) | kernel_rfl) ?_)
                refine CallW.mk (c4) ?_
                try simp (config := { maxSteps := 10000000 }) only [go_sem]
              · cases e2 : okPt (nth (t := tStep) l i).2 <;> rw [e2] at c5
                · have e0 : tvStep q (nth (t := tStep) l i) = false := by unfold tvStep; rw [e1, e2]; rfl
                  rw [e0] at hi
                  rw [hi]
                  try simp (config := { maxSteps := 10000000 }) only [go_sem]
                  repeat (refine And.intro (by first | omega | (constructor <;> omega) | kernel_rfl) ?_)
                  repeat (refine And.intro (by first | omega | (constructor <;> omega) | kernel_rfl) ?_)
                  refine CallW.mk (c4) ?_
                  try simp (config := { maxSteps := 10000000 }) only [go_sem]
                  repeat (refine And.intro (by first | omega | (constructor <;> omega) | kernel_rfl) ?_)
                  refine CallW.mk (c5) ?_
                  try simp (config := { maxSteps := 10000000 }) only [go_sem]
                · by_cases e3 : (nth (t := tStep) l i).1 = 0
                  · have e0 : tvStep q (nth (t := tStep) l i) = true := by unfold tvStep; rw [e1, e2, decide_eq_true e3]; rfl
                    have d3 := decide_eq_true e3
                    rw [e0, Bool.true_and, ← hst] at hi
                    try simp (config := { maxSteps := 10000000 }) only [go_sem]
                    repeat (refine And.intro (by first | omega | (constructor <;> omega) | kernel_rfl) ?_)
                    repeat (refine And.intro (by first | omega | (constructor <;> omega) | kernel_rfl) ?_)
                    refine CallW.mk (c4) ?_
                    try simp (config := { maxSteps := 10000000 }) only [go_sem]
                    repeat (refine And.intro (by first | omega | (constructor <;> omega) | kernel_rfl) ?_)
                    refine CallW.mk (c5) ?_
                    try simp (config := { maxSteps := 10000000 }) only [go_sem]
                    try simp (config := { maxSteps := 10000000 }) only [go_sem, d3]
                    repeat (refine And.intro (by first | omega | (constructor <;> omega) | kernel_rfl) ?_)
                    refine CallW.mk (c7) ?_
                    try simp (config := { maxSteps := 10000000 }) only [go_sem]
                    repeat (refine And.intro (by first | omega | (constructor <;> omega) | kernel_rfl) ?_)
                    refine LoopK.mk (i + 1) ?_ hi (by omega)
                    rw [hst]
                    refine Wk.mk [] ?_
                    try simp (config := { maxSteps := 10000000 }) only [go_sem]
                    try (and_intros <;> first | rfl | omega | exact ⟨_, rfl⟩)
                  · have d3 := decide_eq_false e3
                    cases e4 : eqb (nth (t := tStep) l i).2 q.2 <;> rw [e4] at c6
                    · have e0 : tvStep q (nth (t := tStep) l i) = false := by unfold tvStep; rw [e1, e2, d3, e4]; rfl
                      rw [e0] at hi
                      rw [hi]
                      try simp (config := { maxSteps := 10000000 }) only [go_sem]
                      repeat (refine And.intro (by first | omega | (constructor <;> omega) | kernel_rfl) ?_)
                      repeat (refine And.intro (by first | omega | (constructor <;> omega) | kernel_rfl) ?_)
                      refine CallW.mk (c4) ?_
                      try simp (config := { maxSteps := 10000000 }) only [go_sem]
                      repeat (refine And.intro (by first | omega | (constructor <;> omega) | kernel_rfl) ?_)
                      refine CallW.mk (c5) ?_
                      try simp (config := { maxSteps := 10000000 }) only [go_sem]
                      try simp (config := { maxSteps := 10000000 }) only [go_sem, d3]
                      repeat (refine And.intro (by first | omega | (constructor <;> omega) | kernel_rfl) ?_)
                      refine CallW.mk (c6) ?_
                      try simp (config := { maxSteps := 10000000 }) only [go_sem]
                    · have e0 : tvStep q (nth (t := tStep) l i) = true := by unfold tvStep; rw [e1, e2, d3, e4]; rfl
                      rw [e0, Bool.true_and, ← hst] at hi
                      try simp (config := { maxSteps := 10000000 }) only [go_sem]
                      repeat (refine And.intro (by first | omega | (constructor <;> omega) | kernel_rfl) ?_)
                      repeat (refine And.intro (by first | omega | (constructor <;> omega) | kernel_rfl) ?_)
                      refine CallW.mk (c4) ?_
                      try simp (config := { maxSteps := 10000000 }) only [go_sem]
                      repeat (refine And.intro (by first | omega | (constructor <;> omega) | kernel_rfl) ?_)
                      refine CallW.mk (c5) ?_
                      try simp (config := { maxSteps := 10000000 }) only [go_sem]
                      try simp (config := { maxSteps := 10000000 }) only [go_sem, d3]
                      repeat (refine And.intro (by first | omega | (constructor <;> omega) | kernel_rfl) ?_)
                      refine CallW.mk (c6) ?_
                      try simp (config := { maxSteps := 10000000 }) only [go_sem]
                      repeat (refine And.intro (by first | omega | (constructor <;> omega) | kernel_rfl) ?_)
                      refine CallW.mk (c7) ?_
                      try simp (config := { maxSteps := 10000000 }) only [go_sem]
                      repeat (refine And.intro (by first | omega | (constructor <;> omega) | kernel_rfl) ?_)
                      refine LoopK.mk (i + 1) ?_ hi (by omega)
                      rw [hst]
                      refine Wk.mk [] ?_
                      try simp (config := { maxSteps := 10000000 }) only [go_sem]
                      try (and_intros <;> first | rfl | omega | exact ⟨_, rfl⟩)
            · rw [hi, List.drop_eq_nil_of_le (by omega), show tvGo (plcS p l i) [] = true from rfl]
              try simp (config := { maxSteps := 10000000 }) only [go_sem]
        · have d4 : decide ((8 : Int) < l.length) = true := decide_eq_true (by omega)
          rw [decide_eq_false h4]
          refine fn_enter tabOK mixes Tryz.func49 rfl rfl _ Tryz.ntmps49 _ Tryz.results49 (by simp) fun hwf => ?_
          try simp (config := { maxSteps := 10000000 }) only [go_sem]
          repeat (refine And.intro (by first | omega | (constructor <;> omega) | kernel_rfl) ?_)
          refine CallW.mk (c1) ?_
          try simp (config := { maxSteps := 10000000 }) only [go_sem]
          repeat (refine And.intro (by first | omega | (constructor <;> omega) | kernel_rfl) ?_)
          refine CallW.mk (c2) ?_
          try simp (config := { maxSteps := 10000000 }) only [go_sem]
          repeat (refine And.intro (by first | omega | (constructor <;> omega) | kernel_rfl) ?_)
          refine CallW.mk (c3) ?_
          try simp (config := { maxSteps := 10000000 }) only [go_sem]
          try simp (config := { maxSteps := 10000000 }) only [go_sem, d4]
theorem specIsValidTour_fn (t : DT) : Fn Tryz.prog 46 [⟨tTour, t⟩] false [⟨.bool, tourB t⟩] := by
  obtain ⟨r, p, l⟩ := t
  have c1 := l10Shape_fn r 20 (by decide)
  have c2 := l01In_fn p.1 0 3
  have c3 := specIsValidPoint_fn p.2
  unfold tourB
  cases h1 : smB r 20 <;> rw [h1] at c1
  · refine fn_enter tabOK mixes Tryz.func46 rfl rfl _ Tryz.ntmps46 _ Tryz.results46 (by simp) fun hwf => ?_
    try simp (config := { maxSteps := 10000000 }) only [go_sem]
    repeat (refine And.intro (by first | omega | (constructor <;> omega) | kernel_rfl) ?_)
    refine CallW.mk (c1) ?_
    try simp (config := { maxSteps := 10000000 }) only [go_sem]
  · cases h2 : decide (0 ≤ p.1 ∧ p.1 ≤ 3) <;> rw [h2] at c2
    · refine fn_enter tabOK mixes Tryz.func46 rfl rfl _ Tryz.ntmps46 _ Tryz.results46 (by simp) fun hwf => ?_
      try simp (config := { maxSteps := 10000000 }) only [go_sem]
      repeat (refine And.intro (by first | omega | (constructor <;> omega) | kernel_rfl) ?_)
      refine CallW.mk (c1) ?_
      try simp (config := { maxSteps := 10000000 }) only [go_sem]
      repeat (refine And.intro (by first | omega | (constructor <;> omega) | kernel_rfl) ?_)
      refine CallW.mk (c2) ?_
      try simp (config := { maxSteps := 10000000 }) only [go_sem]
    · cases h3 : okPt p.2 <;> rw [h3] at c3
      · refine fn_enter tabOK mixes Tryz.func46 rfl rfl _ Tryz.ntmps46 _ Tryz.results46 (by simp) fun hwf => ?_
        try simp (config := { maxSteps := 10000000 }) only [go_sem]
        repeat (refine And.intro (by first | omega | (constructor <;> omega) | kernel_rfl) ?_)
        refine CallW.mk (c1) ?_
        try simp (config := { maxSteps := 10000000 }) only [go_sem]
        repeat (refine And.intro (by first | omega | (constructor <;> omega) | kernel_rfl) ?_)
        refine CallW.mk (c2) ?_
        try simp (config := { maxSteps := 10000000 }) only [go_sem]
        repeat (refine And.intro (by first | omega | (constructor <;> omega) | kernel_rfl) ?_)
        refine CallW.mk (c3) ?_
        try simp (config := { maxSteps := 10000000 }) only [go_sem]
      · by_cases h4 : (l.length : Int) ≤ 8
        · have d4 : decide ((8 : Int) < l.length) = false := decide_eq_false (by omega)
          rw [decide_eq_true h4]
          refine fn_enter tabOK mixes Tryz.func46 rfl rfl _ Tryz.ntmps46 _ Tryz.results46 (by simp) fun hwf => ?_
          try simp (config := { maxSteps := 10000000 }) only [go_sem]
          repeat (refine And.intro (by first | omega | (constructor <;> omega) | kernel_rfl) ?_)
          refine CallW.mk (c1) ?_
          try simp (config := { maxSteps := 10000000 }) only [go_sem]
          repeat (refine And.intro (by first | omega | (constructor <;> omega) | kernel_rfl) ?_)
          refine CallW.mk (c2) ?_
          try simp (config := { maxSteps := 10000000 }) only [go_sem]
          repeat (refine And.intro (by first | omega | (constructor <;> omega) | kernel_rfl) ?_)
          refine CallW.mk (c3) ?_
          try simp (config := { maxSteps := 10000000 }) only [go_sem]
          try simp (config := { maxSteps := 10000000 }) only [go_sem, d4]
          refine LoopG.intro _ _ _ (fun i : Nat => ⟨[(3, .ptr 1 0), (33, .sl tStep l), (34, .sc (.int .i64 l.length)), (35, .sc (.int .i64 i))], [(1, .box [.sc (.int .i64 (plcS p l i).1), .sc (.bool (plcS p l i).2.1.1.1), .sl .int (plcS p l i).2.1.1.2, .sl .int (plcS p l i).2.1.2, .sc (.bool (plcS p l i).2.2.1.1), .sl .int (plcS p l i).2.2.1.2, .sl .int (plcS p l i).2.2.2])]⟩) (fun i => tvGo p l = tvGo (plcS p l i) (l.drop i)) (fun i => l.length - i) 0 ?_ rfl ?_
          · refine Wk.mk [] ?_
            try simp (config := { maxSteps := 10000000 }) only [go_sem]
            try (and_intros <;> first | rfl | omega | exact ⟨_, rfl⟩)
          · rintro i hi
            try simp (config := { maxSteps := 10000000 }) only [go_sem]
            refine CondW_dec (fun hA => ?_) (fun hA => ?_)
            · have hst := plcS_step p (show i < l.length by omega)
              rw [tvGo_at (by omega)] at hi
              have c4 := l22Turn_fn (nth (t := tStep) l i).1
              have c5 := specIsValidPoint_fn (nth (t := tStep) l i).2
              have c6 := specSame_fn (nth (t := tStep) l i).2 (plcS p l i).2
              have c7 := l22After_fn (plcS p l i) (nth (t := tStep) l i)
              generalize hq : plcS p l i = q at hi hst c6 c7 ⊢
              cases e1 : decide (-1 ≤ (nth (t := tStep) l i).1 ∧ (nth (t := tStep) l i).1 ≤ 1) <;> rw [e1] at c4
              · have e0 : tvStep q (nth (t := tStep) l i) = false := by unfold tvStep; rw [e1]; rfl
                rw [e0] at hi
                rw [hi]
                try simp (config := { maxSteps := 10000000 }) only [go_sem]
                repeat (refine And.intro (by first | omega | (constructor <;> omega) | kernel_rfl) ?_)
                repeat (refine And.intro (by first | omega | (constructor <;> omega) | kernel_rfl) ?_)
                refine CallW.mk (c4) ?_
                try simp (config := { maxSteps := 10000000 }) only [go_sem]
              · cases e2 : okPt (nth (t := tStep) l i).2 <;> rw [e2] at c5
                · have e0 : tvStep q (nth (t := tStep) l i) = false := by unfold tvStep; rw [e1, e2]; rfl
                  rw [e0] at hi
                  rw [hi]
                  try simp (config := { maxSteps := 10000000 }) only [go_sem]
                  repeat (refine And.intro (by first | omega | (constructor <;> omega) | kernel_rfl) ?_)
                  repeat (refine And.intro (by first | omega | (constructor <;> omega) | kernel_rfl) ?_)
                  refine CallW.mk (c4) ?_
                  try simp (config := { maxSteps := 10000000 }) only [go_sem]
                  repeat (refine And.intro (by first | omega | (constructor <;> omega) | kernel_rfl) ?_)
                  refine CallW.mk (c5) ?_
                  try simp (config := { maxSteps := 10000000 }) only [go_sem]
                · by_cases e3 : (nth (t := tStep) l i).1 = 0
                  · have e0 : tvStep q (nth (t := tStep) l i) = true := by unfold tvStep; rw [e1, e2, decide_eq_true e3]; rfl
                    have d3 := decide_eq_true e3
                    rw [e0, Bool.true_and, ← hst] at hi
                    try simp (config := { maxSteps := 10000000 }) only [go_sem]
                    repeat (refine And.intro (by first | omega | (constructor <;> omega) | kernel_rfl) ?_)
                    repeat (refine And.intro (by first | omega | (constructor <;> omega) | kernel_rfl) ?_)
                    refine CallW.mk (c4) ?_
                    try simp (config := { maxSteps := 10000000 }) only [go_sem]
                    repeat (refine And.intro (by first | omega | (constructor <;> omega) | kernel_rfl) ?_)
                    refine CallW.mk (c5) ?_
                    try simp (config := { maxSteps := 10000000 }) only [go_sem]
                    try simp (config := { maxSteps := 10000000 }) only [go_sem, d3]
                    repeat (refine And.intro (by first | omega | (constructor <;> omega) | kernel_rfl) ?_)
                    refine CallW.mk (c7) ?_
                    try simp (config := { maxSteps := 10000000 }) only [go_sem]
                    repeat (refine And.intro (by first | omega | (constructor <;> omega) | kernel_rfl) ?_)
                    refine LoopK.mk (i + 1) ?_ hi (by omega)
                    rw [hst]
                    refine Wk.mk [] ?_
                    try simp (config := { maxSteps := 10000000 }) only [go_sem]
                    try (and_intros <;> first | rfl | omega | exact ⟨_, rfl⟩)
                  · have d3 := decide_eq_false e3
                    cases e4 : eqb (nth (t := tStep) l i).2 q.2 <;> rw [e4] at c6
                    · have e0 : tvStep q (nth (t := tStep) l i) = false := by unfold tvStep; rw [e1, e2, d3, e4]; rfl
                      rw [e0] at hi
                      rw [hi]
                      try simp (config := { maxSteps := 10000000 }) only [go_sem]
                      repeat (refine And.intro (by first | omega | (constructor <;> omega) | kernel_rfl) ?_)
                      repeat (refine And.intro (by first | omega | (constructor <;> omega) | kernel_rfl) ?_)
                      refine CallW.mk (c4) ?_
                      try simp (config := { maxSteps := 10000000 }) only [go_sem]
                      repeat (refine And.intro (by first | omega | (constructor <;> omega) | kernel_rfl) ?_)
                      refine CallW.mk (c5) ?_
                      try simp (config := { maxSteps := 10000000 }) only [go_sem]
                      try simp (config := { maxSteps := 10000000 }) only [go_sem, d3]
                      repeat (refine And.intro (by first | omega | (constructor <;> omega) | kernel_rfl) ?_)
                      refine CallW.mk (c6) ?_
                      try simp (config := { maxSteps := 10000000 }) only [go_sem]
                    · have e0 : tvStep q (nth (t := tStep) l i) = true := by unfold tvStep; rw [e1, e2, d3, e4]; rfl
                      rw [e0, Bool.true_and, ← hst] at hi
                      try simp (config := { maxSteps := 10000000 }) only [go_sem]
                      repeat (refine And.intro (by first | omega | (constructor <;> omega) | kernel_rfl) ?_)
                      repeat (refine And.intro (by first | omega | (constructor <;> omega) | kernel_rfl) ?_)
                      refine CallW.mk (c4) ?_
                      try simp (config := { maxSteps := 10000000 }) only [go_sem]
                      repeat (refine And.intro (by first | omega | (constructor <;> omega) | kernel_rfl) ?_)
                      refine CallW.mk (c5) ?_
                      try simp (config := { maxSteps := 10000000 }) only [go_sem]
                      try simp (config := { maxSteps := 10000000 }) only [go_sem, d3]
                      repeat (refine And.intro (by first | omega | (constructor <;> omega) | kernel_rfl) ?_)
                      refine CallW.mk (c6) ?_
                      try simp (config := { maxSteps := 10000000 }) only [go_sem]
                      repeat (refine And.intro (by first | omega | (constructor <;> omega) | kernel_rfl) ?_)
                      refine CallW.mk (c7) ?_
                      try simp (config := { maxSteps := 10000000 }) only [go_sem]
                      repeat (refine And.intro (by first | omega | (constructor <;> omega) | kernel_rfl) ?_)
                      refine LoopK.mk (i + 1) ?_ hi (by omega)
                      rw [hst]
                      refine Wk.mk [] ?_
                      try simp (config := { maxSteps := 10000000 }) only [go_sem]
                      try (and_intros <;> first | rfl | omega | exact ⟨_, rfl⟩)
            · rw [hi, List.drop_eq_nil_of_le (by omega), show tvGo (plcS p l i) [] = true from rfl]
              try simp (config := { maxSteps := 10000000 }) only [go_sem]
        · have d4 : decide ((8 : Int) < l.length) = true := decide_eq_true (by omega)
          rw [decide_eq_false h4]
          refine fn_enter tabOK mixes Tryz.func46 rfl rfl _ Tryz.ntmps46 _ Tryz.results46 (by simp) fun hwf => ?_
          try simp (config := { maxSteps := 10000000 }) only [go_sem]
          repeat (refine And.intro (by first | omega | (constructor <;> omega) | kernel_rfl) ?_)
          refine CallW.mk (c1) ?_
          try simp (config := { maxSteps := 10000000 }) only [go_sem]
          repeat (refine And.intro (by first | omega | (constructor <;> omega) | kernel_rfl) ?_)
          refine CallW.mk (c2) ?_
          try simp (config := { maxSteps := 10000000 }) only [go_sem]
          repeat (refine And.intro (by first | omega | (constructor <;> omega) | kernel_rfl) ?_)
          refine CallW.mk (c3) ?_
          try simp (config := { maxSteps := 10000000 }) only [go_sem]
          try simp (config := { maxSteps := 10000000 }) only [go_sem, d4]
end Go.Proofs.YtghckbohaghgkaaGreat.DW

/-
  Tours: stands.
-/
namespace Go.Proofs.YtghckbohaghgkaaGreat.DW
open Go.RowKit
theorem l05Copy_fn (p : DP) (h : okPt p = true) : Fn Tryz.prog 113 [⟨tPoint, p⟩] true [⟨tPoint, p⟩] := by
  unfold okPt at h
  rw [Bool.and_eq_true] at h
  have h1 := okR_len h.1
  have h2 := okR_len h.2
  have c1 := l04Copy_fn p.1 (by omega) (by omega)
  have c2 := l04Copy_fn p.2 (by omega) (by omega)
  refine fn_enter tabOK mixes Tryz.func113 rfl rfl _ Tryz.ntmps113 _ Tryz.results113 (by simp) fun hwf => ?_
  try simp (config := { maxSteps := 10000000 }) only [go_sem]
  repeat (refine And.intro (by first | omega | (constructor <;> omega) | kernel_rfl) ?_)
  refine CallW.mk (c1) ?_
  try simp (config := { maxSteps := 10000000 }) only [go_sem]
  repeat (refine And.intro (by first | omega | (constructor <;> omega) | kernel_rfl) ?_)
  refine CallW.mk (c2) ?_
  try simp (config := { maxSteps := 10000000 }) only [go_sem]
  all_goals repeat (refine And.intro (by first | omega | (constructor <;> omega) | kernel_rfl) ?_)
  all_goals first | kernel_rfl | omega | rfl
/-- How many steps are taken. -/
def clip (k : Int) (n : Nat) : Nat := (max 0 (min k (n : Int))).toNat
theorem after_fn (p : DS) (l : List DS) (k : Int) : Fn Tryz.prog 121 [⟨tStep, p⟩, ⟨.slice tStep, l⟩, ⟨.int, k⟩] false [⟨tStep, plcS p l (clip k l.length)⟩] := by
  unfold plcS clip
  refine fn_enter tabOK mixes Tryz.func121 rfl rfl _ Tryz.ntmps121 _ Tryz.results121 (by simp) fun hwf => ?_
  have hl : l.length ≤ 9223372036854775807 := (hwf ⟨.slice tStep, l⟩ (by simp)).1
  try simp (config := { maxSteps := 10000000 }) only [go_sem]
  have hml : (List.take (max 0 (min k ↑l.length)).toNat l).length ≤ 9223372036854775807 := by rw [List.length_take]; omega
  generalize List.take (max 0 (min k ↑l.length)).toNat l = m at hml ⊢
  repeat (refine And.intro (by first | omega | (constructor <;> omega) | kernel_rfl) ?_)
  refine LoopG.intro _ _ _ (fun i : Nat => ⟨[(3, .ptr 0 0), (6, .ptr 1 0), (15, .sl tStep m), (16, .sc (.int .i64 m.length)), (17, .sc (.int .i64 i))], [(1, .box [.sc (.int .i64 0), .sc (.bool false), .sc (.slice none 0 0), .sc (.slice none 0 0), .sc (.bool false), .sc (.slice none 0 0), .sc (.slice none 0 0)]), (0, .box [.sc (.int .i64 (plcS p m i).1), .sc (.bool (plcS p m i).2.1.1.1), .sl .int (plcS p m i).2.1.1.2, .sl .int (plcS p m i).2.1.2, .sc (.bool (plcS p m i).2.2.1.1), .sl .int (plcS p m i).2.2.1.2, .sl .int (plcS p m i).2.2.2])]⟩) (fun i => i ≤ m.length) (fun i => m.length - i) 0 ?_ (Nat.zero_le _) ?_
  · refine Wk.mk [] ?_
    try simp (config := { maxSteps := 10000000 }) only [go_sem]
    try (and_intros <;> first | rfl | omega | exact ⟨_, rfl⟩)
  · rintro i hi
    try simp (config := { maxSteps := 10000000 }) only [go_sem]
    refine CondW_dec (fun hA => ?_) (fun hA => ?_)
    · have hst := plcS_step p (show i < m.length by omega)
      have c1 := stepped_fn (plcS p m i) (nth (t := tStep) m i)
      try simp (config := { maxSteps := 10000000 }) only [go_sem]
      repeat (refine And.intro (by first | omega | (constructor <;> omega) | kernel_rfl) ?_)
      repeat (refine And.intro (by first | omega | (constructor <;> omega) | kernel_rfl) ?_)
      refine CallW.mk (c1) ?_
      try simp (config := { maxSteps := 10000000 }) only [go_sem]
      repeat (refine And.intro (by first | omega | (constructor <;> omega) | kernel_rfl) ?_)
      refine LoopK.mk (i + 1) ?_ (by omega) (by omega)
      rw [hst]
      refine Wk.mk [] ?_
      try simp (config := { maxSteps := 10000000 }) only [go_sem]
      try (and_intros <;> first | rfl | omega | exact ⟨_, rfl⟩)
    · have : plcF p m = plcS p m i := by unfold plcS; rw [List.take_of_length_le (by omega)]
      rw [this]
      try simp (config := { maxSteps := 10000000 }) only [go_sem]
      all_goals repeat (refine And.intro (by first | omega | (constructor <;> omega) | kernel_rfl) ?_)
      all_goals first | kernel_rfl | omega | rfl
theorem PlacementAfter_fn (p : DS) (l : List DS) (k : Int) (h : okPt (plcS p l (clip k l.length)).2 = true) : Fn Tryz.prog 69 [⟨tStep, p⟩, ⟨.slice tStep, l⟩, ⟨.int, k⟩] true [⟨tStep, plcS p l (clip k l.length)⟩] := by
  have c2 := l05Copy_fn _ h
  refine fn_enter tabOK mixes Tryz.func69 rfl rfl _ Tryz.ntmps69 _ Tryz.results69 (by simp) fun hwf => ?_
  have hl : l.length ≤ 9223372036854775807 := (hwf ⟨.slice tStep, l⟩ (by simp)).1
  try simp (config := { maxSteps := 10000000 }) only [go_sem]
  refine LoopG.intro _ _ _ (fun i : Nat => ⟨[(2, .sc (.int .i64 k)), (3, .ptr 0 0), (6, .ptr 1 0), (9, .sl tStep l), (10, .sc (.int .i64 l.length)), (11, .sc (.int .i64 i))], [(1, .box [.sc (.int .i64 0), .sc (.bool false), .sc (.slice none 0 0), .sc (.slice none 0 0), .sc (.bool false), .sc (.slice none 0 0), .sc (.slice none 0 0)]), (0, .box [.sc (.int .i64 (plcS p l (clip k i)).1), .sc (.bool (plcS p l (clip k i)).2.1.1.1), .sl .int (plcS p l (clip k i)).2.1.1.2, .sl .int (plcS p l (clip k i)).2.1.2, .sc (.bool (plcS p l (clip k i)).2.2.1.1), .sl .int (plcS p l (clip k i)).2.2.1.2, .sl .int (plcS p l (clip k i)).2.2.2])]⟩) (fun i => i ≤ l.length) (fun i => l.length - i) 0 ?_ (Nat.zero_le _) ?_
  · have e0 : plcS p l (clip k 0) = p := by rw [show clip k 0 = 0 by unfold clip; omega]; rfl
    rw [e0]
    refine Wk.mk [] ?_
    try simp (config := { maxSteps := 10000000 }) only [go_sem]
    try (and_intros <;> first | rfl | omega | exact ⟨_, rfl⟩)
  · rintro i hi
    try simp (config := { maxSteps := 10000000 }) only [go_sem]
    refine CondW_dec (fun hA => ?_) (fun hA => ?_)
    · try simp (config := { maxSteps := 10000000 }) only [go_sem]
      repeat (refine And.intro (by first | omega | (constructor <;> omega) | kernel_rfl) ?_)
      refine CondW_dec (fun hB => ?_) (fun hB => ?_)
      · have hst := plcS_step p (show i < l.length by omega)
        rw [show i = clip k i by unfold clip; omega, show clip k i + 1 = clip k (i + 1) by unfold clip; omega] at hst
        have hci : clip k i = i := by unfold clip; omega
        rw [hci] at hst
        have c1 := l22After_fn (plcS p l i) (nth (t := tStep) l i)
        rw [hci]
        try simp (config := { maxSteps := 10000000 }) only [go_sem]
        repeat (refine And.intro (by first | omega | (constructor <;> omega) | kernel_rfl) ?_)
        refine CallW.mk (c1) ?_
        try simp (config := { maxSteps := 10000000 }) only [go_sem]
        repeat (refine And.intro (by first | omega | (constructor <;> omega) | kernel_rfl) ?_)
        refine LoopK.mk (i + 1) ?_ (by omega) (by omega)
        rw [hst]
        refine Wk.mk [] ?_
        try simp (config := { maxSteps := 10000000 }) only [go_sem]
        try (and_intros <;> first | rfl | omega | exact ⟨_, rfl⟩)
      · have hst : clip k (i + 1) = clip k i := by unfold clip; omega
        try simp (config := { maxSteps := 10000000 }) only [go_sem]
        repeat (refine And.intro (by first | omega | (constructor <;> omega) | kernel_rfl) ?_)
        refine LoopK.mk (i + 1) ?_ (by omega) (by omega)
        rw [hst]
        refine Wk.mk [] ?_
        try simp (config := { maxSteps := 10000000 }) only [go_sem]
        try (and_intros <;> first | rfl | omega | exact ⟨_, rfl⟩)
    · rw [show i = l.length by omega]
      generalize plcS p l (clip k l.length) = q at c2 ⊢
      try simp (config := { maxSteps := 10000000 }) only [go_sem]
      repeat (refine And.intro (by first | omega | (constructor <;> omega) | kernel_rfl) ?_)
      repeat (refine And.intro (by first | omega | (constructor <;> omega) | kernel_rfl) ?_)
      refine CallW.mk (c2) ?_
      try simp (config := { maxSteps := 10000000 }) only [go_sem]
      all_goals repeat (refine And.intro (by first | omega | (constructor <;> omega) | kernel_rfl) ?_)
      all_goals first | kernel_rfl | omega | rfl
theorem okPt_stp {p x : DS} (hp : okPt p.2 = true) (hx : okPt x.2 = true) : okPt (stp p x).2 = true := by
  unfold stp
  split
  · exact hx
  · split
    · exact hp
    · exact hp
theorem okPt_go {l : List DS} : ∀ {p : DS}, okPt p.2 = true → tvGo p l = true → ∀ i, okPt (plcS p l i).2 = true := by
  induction l with
  | nil => intro p hp _ i; unfold plcS; rw [List.take_nil]; exact hp
  | cons x l ih =>
    intro p hp h i
    have h' : (tvStep p x && tvGo (stp p x) l) = true := h
    rw [Bool.and_eq_true] at h'
    have hx : okPt x.2 = true := by
      have := h'.1
      unfold tvStep at this
      rw [Bool.and_eq_true, Bool.and_eq_true] at this
      exact this.2.1
    cases i with
    | zero => exact hp
    | succ i => exact ih (okPt_stp hp hx) h'.2 i
theorem okPt_tour {t : DT} (h : tourB t = true) (i : Nat) : okPt (plcS t.2.1 t.2.2 i).2 = true := by
  unfold tourB at h
  simp only [Bool.and_eq_true] at h
  exact okPt_go h.2.2.1 h.2.2.2.2 i
noncomputable def standB (t : DT) (k : Int) : Bool := tourB t && decide (0 ≤ k ∧ k ≤ (t.2.2.length : Int))
noncomputable def standP (t : DT) (k : Int) : DS := plcS t.2.1 t.2.2 (clip k t.2.2.length)
noncomputable def standO (t : DT) (k : Int) : DS := if standB t k then standP t k else (0, ptZ)
theorem isStand_fn (t : DT) (k : Int) : Fn Tryz.prog 41 [⟨tTour, t⟩, ⟨.int, k⟩] false [⟨.bool, standB t k⟩] := by
  have c1 := implIsValidTour_fn t
  unfold standB
  cases h : tourB t <;> rw [h] at c1
  · refine fn_enter tabOK mixes Tryz.func41 rfl rfl _ Tryz.ntmps41 _ Tryz.results41 (by simp) fun hwf => ?_
    try simp (config := { maxSteps := 10000000 }) only [go_sem]
    repeat (refine And.intro (by first | omega | (constructor <;> omega) | kernel_rfl) ?_)
    refine CallW.mk (c1) ?_
    try simp (config := { maxSteps := 10000000 }) only [go_sem]
  · refine fn_enter tabOK mixes Tryz.func41 rfl rfl _ Tryz.ntmps41 _ Tryz.results41 (by simp) fun hwf => ?_
    try simp (config := { maxSteps := 10000000 }) only [go_sem]
    repeat (refine And.intro (by first | omega | (constructor <;> omega) | kernel_rfl) ?_)
    refine CallW.mk (c1) ?_
    try simp (config := { maxSteps := 10000000 }) only [go_sem]
    repeat (refine And.intro (by first | omega | (constructor <;> omega) | kernel_rfl) ?_)
    refine CallW.mk (within_fn k 0 t.2.2.length) ?_
    try simp (config := { maxSteps := 10000000 }) only [go_sem]
theorem stand_fn (t : DT) (k : Int) : Fn Tryz.prog 83 [⟨tTour, t⟩, ⟨.int, k⟩] false [⟨tStep, standP t k⟩] := by
  have c1 := after_fn t.2.1 t.2.2 k
  refine fn_enter tabOK mixes Tryz.func83 rfl rfl _ Tryz.ntmps83 _ Tryz.results83 (by simp) fun hwf => ?_
  unfold standP
  try simp (config := { maxSteps := 10000000 }) only [go_sem]
  repeat (refine And.intro (by first | omega | (constructor <;> omega) | kernel_rfl) ?_)
  refine CallW.mk (c1) ?_
  try simp (config := { maxSteps := 10000000 }) only [go_sem]
  all_goals repeat (refine And.intro (by first | omega | (constructor <;> omega) | kernel_rfl) ?_)
  all_goals first | kernel_rfl | omega | rfl
theorem specStandOf_fn (t : DT) (k : Int) : FnT Tryz.prog 33 [⟨tTour, t⟩, ⟨.int, k⟩] [⟨tStep, standO t k⟩, ⟨.bool, standB t k⟩] := by
  have c1 := specIsValidTour_fn t
  have c2 := l01In_fn k 0 t.2.2.length
  unfold standO standB
  cases h : tourB t <;> rw [h] at c1
  · rw [Bool.false_and, if_neg (by decide)]
    refine fnT_enter tabOK mixes Tryz.func33 rfl rfl _ Tryz.ntmps33 _ Tryz.results33 (by simp) fun hwf => ?_
    try simp (config := { maxSteps := 10000000 }) only [go_sem]
    repeat (refine And.intro (by first | omega | (constructor <;> omega) | kernel_rfl) ?_)
    refine CallW.mk (c1) ?_
    try simp (config := { maxSteps := 10000000 }) only [go_sem]
    all_goals repeat (refine And.intro (by first | omega | (constructor <;> omega) | kernel_rfl) ?_)
    all_goals first | kernel_rfl | omega | rfl
  · cases h2 : decide (0 ≤ k ∧ k ≤ (t.2.2.length : Int)) <;> rw [h2] at c2
    · rw [Bool.and_false, if_neg (by decide)]
      refine fnT_enter tabOK mixes Tryz.func33 rfl rfl _ Tryz.ntmps33 _ Tryz.results33 (by simp) fun hwf => ?_
      try simp (config := { maxSteps := 10000000 }) only [go_sem]
      repeat (refine And.intro (by first | omega | (constructor <;> omega) | kernel_rfl) ?_)
      refine CallW.mk (c1) ?_
      try simp (config := { maxSteps := 10000000 }) only [go_sem]
      repeat (refine And.intro (by first | omega | (constructor <;> omega) | kernel_rfl) ?_)
      refine CallW.mk (c2) ?_
      try simp (config := { maxSteps := 10000000 }) only [go_sem]
      all_goals repeat (refine And.intro (by first | omega | (constructor <;> omega) | kernel_rfl) ?_)
      all_goals first | kernel_rfl | omega | rfl
    · have c3 := PlacementAfter_fn t.2.1 t.2.2 k (okPt_tour h _)
      rw [Bool.and_self, if_pos rfl]
      unfold standP
      refine fnT_enter tabOK mixes Tryz.func33 rfl rfl _ Tryz.ntmps33 _ Tryz.results33 (by simp) fun hwf => ?_
      try simp (config := { maxSteps := 10000000 }) only [go_sem]
      repeat (refine And.intro (by first | omega | (constructor <;> omega) | kernel_rfl) ?_)
      refine CallW.mk (c1) ?_
      try simp (config := { maxSteps := 10000000 }) only [go_sem]
      repeat (refine And.intro (by first | omega | (constructor <;> omega) | kernel_rfl) ?_)
      refine CallW.mk (c2) ?_
      try simp (config := { maxSteps := 10000000 }) only [go_sem]
      repeat (refine And.intro (by first | omega | (constructor <;> omega) | kernel_rfl) ?_)
      refine CallW.mk (c3) ?_
      try simp (config := { maxSteps := 10000000 }) only [go_sem]
      all_goals repeat (refine And.intro (by first | omega | (constructor <;> omega) | kernel_rfl) ?_)
      all_goals first | kernel_rfl | omega | rfl
end Go.Proofs.YtghckbohaghgkaaGreat.DW

/-
  Robots at stands: do they touch?
-/
namespace Go.Proofs.YtghckbohaghgkaaGreat.DW
open Go.RowKit
theorem differenceP_fn (p q : DP) (hp : okPt p = true) (hq : okPt q = true) : Fn Tryz.prog 87 [⟨tPoint, p⟩, ⟨tPoint, q⟩] true [⟨tPoint, subP p q⟩] := by
  obtain ⟨p1, p2⟩ := Bool.and_eq_true_iff.1 (show (okR p.1 && okR p.2) = true from hp)
  obtain ⟨q1, q2⟩ := Bool.and_eq_true_iff.1 (show (okR q.1 && okR q.2) = true from hq)
  have h2 := difference_fn (rdO p.1) (rdO p.2) (rdO q.1) (rdO q.2) (okO_rdO _) (okO_rdO _) (okO_rdO _) (okO_rdO _)
  rw [okR_oD p1, okR_oD p2, okR_oD q1, okR_oD q2] at h2
  unfold subP
  exact h2
theorem stp_hd {p x : DS} (hp : 0 ≤ p.1 ∧ p.1 ≤ 3) : 0 ≤ (stp p x).1 ∧ (stp p x).1 ≤ 3 := by
  unfold stp
  split
  · exact hp
  · split
    · rename_i h
      show 0 ≤ nxH p.1 x.1 ∧ nxH p.1 x.1 ≤ 3
      rw [nxH_in hp h]
      omega
    · exact hp
theorem plcF_hd : ∀ {l : List DS} {p : DS}, 0 ≤ p.1 ∧ p.1 ≤ 3 → 0 ≤ (plcF p l).1 ∧ (plcF p l).1 ≤ 3
  | [], _, h => h
  | x :: l, p, h => plcF_hd (l := l) (p := stp p x) (stp_hd h)
theorem tour_parts {t : DT} (h : tourB t = true) : SmP 20 t.1 ∧ (0 ≤ t.2.1.1 ∧ t.2.1.1 ≤ 3) ∧ okPt t.2.1.2 = true ∧ t.2.2.length ≤ 8 ∧ tvGo t.2.1 t.2.2 = true := by
  unfold tourB at h
  simp only [Bool.and_eq_true] at h
  obtain ⟨h1, h2, h3, h4, h5⟩ := h
  exact ⟨smB_p h1, of_decide_eq_true h2, h3, by have := of_decide_eq_true h4; omega, h5⟩
theorem standP_hd {t : DT} (h : tourB t = true) (k : Int) : 0 ≤ (standP t k).1 ∧ (standP t k).1 ≤ 3 := plcF_hd (tour_parts h).2.1
theorem standP_ok {t : DT} (h : tourB t = true) (k : Int) : okPt (standP t k).2 = true := okPt_tour h _
theorem standB_t {t : DT} {k : Int} (h : standB t k = true) : tourB t = true := by unfold standB at h; rw [Bool.and_eq_true] at h; exact h.1
/-- The robot of a tour at a stand, turned. -/
noncomputable def robD (t : DT) (k : Int) : List DV := t.1.map (rotN (standP t k).1.toNat)
theorem robD_sm {t : DT} (h : tourB t = true) (k : Int) : SmP 20 (robD t k) := (tour_parts h).1.rot _
noncomputable def areaD (a : DT) (i : Int) (b : DT) (j : Int) : List DV := obsD (robD a i) (robD b j)
noncomputable def stTB (a : DT) (i : Int) (b : DT) (j : Int) : Bool := decide (cpD (areaD a i b j) (subP (standP a i).2 (standP b j).2) ≥ 0)
theorem areaD_poly {a b : DT} (ha : tourB a = true) (hb : tourB b = true) (i j : Int) : polyP (areaD a i b j) := obs_poly (robD_sm ha i) (robD_sm hb j) (by decide)
theorem standsTouch_fn (a : DT) (i : Int) (b : DT) (j : Int) (ha : tourB a = true) (hb : tourB b = true) : Fn Tryz.prog 42 [⟨tTour, a⟩, ⟨.int, i⟩, ⟨tTour, b⟩, ⟨.int, j⟩] false [⟨.bool, stTB a i b j⟩] := by
  have c1 := stand_fn a i
  have c2 := stand_fn b j
  have p1 := (tour_parts ha).1
  have p2 := (tour_parts hb).1
  have l1 := p1.five
  have l2 := p2.five
  have c3 := TurnPolygonI_fn a.1 (standP a i).1 p1.ok (by omega) (standP_hd ha i)
  have c4 := TurnPolygonI_fn b.1 (standP b j).1 p2.ok (by omega) (standP_hd hb j)
  have c5 := ObstacleForI_fn _ _ (robD_sm ha i) (robD_sm hb j) (by decide)
  have c6 := differenceP_fn _ _ (standP_ok ha i) (standP_ok hb j)
  have c7 := ContainsI_fn (areaD a i b j) (subP (standP a i).2 (standP b j).2) (areaD_poly ha hb i j)
  unfold robD at c5
  unfold areaD robD at c7
  unfold stTB areaD robD
  refine fn_enter tabOK mixes Tryz.func42 rfl rfl _ Tryz.ntmps42 _ Tryz.results42 (by simp) fun hwf => ?_
  try simp (config := { maxSteps := 10000000 }) only [go_sem]
  repeat (refine And.intro (by first | omega | (constructor <;> omega) | kernel_rfl) ?_)
  refine CallW.mk (c1) ?_
  try simp (config := { maxSteps := 10000000 }) only [go_sem]
  repeat (refine And.intro (by first | omega | (constructor <;> omega) | kernel_rfl) ?_)
  refine CallW.mk (c2) ?_
  try simp (config := { maxSteps := 10000000 }) only [go_sem]
  repeat (refine And.intro (by first | omega | (constructor <;> omega) | kernel_rfl) ?_)
  repeat (refine And.intro (by first | omega | (constructor <;> omega) | kernel_rfl) ?_)
  refine CallW.mk (c3) ?_
  try simp (config := { maxSteps := 10000000 }) only [go_sem]
  repeat (refine And.intro (by first | omega | (constructor <;> omega) | kernel_rfl) ?_)
  refine CallW.mk (c4) ?_
  try simp (config := { maxSteps := 10000000 }) only [go_sem]
  repeat (refine And.intro (by first | omega | (constructor <;> omega) | kernel_rfl) ?_)
  refine CallW.mk (c5) ?_
  try simp (config := { maxSteps := 10000000 }) only [go_sem]
  repeat (refine And.intro (by first | omega | (constructor <;> omega) | kernel_rfl) ?_)
  repeat (refine And.intro (by first | omega | (constructor <;> omega) | kernel_rfl) ?_)
  refine CallW.mk (c6) ?_
  try simp (config := { maxSteps := 10000000 }) only [go_sem]
  repeat (refine And.intro (by first | omega | (constructor <;> omega) | kernel_rfl) ?_)
  refine CallW.mk (c7) ?_
  try simp (config := { maxSteps := 10000000 }) only [go_sem]
  all_goals repeat (refine And.intro (by first | omega | (constructor <;> omega) | kernel_rfl) ?_)
  all_goals first | kernel_rfl | omega | rfl
noncomputable def stTouch (a : DT) (i : Int) (b : DT) (j : Int) : Bool := standB a i && (standB b j && stTB a i b j)
theorem StandsTouchI_fn (a : DT) (i : Int) (b : DT) (j : Int) : Fn Tryz.prog 11 [⟨tTour, a⟩, ⟨.int, i⟩, ⟨tTour, b⟩, ⟨.int, j⟩] false [⟨.bool, stTouch a i b j⟩] := by
  have c1 := isStand_fn a i
  have c2 := isStand_fn b j
  unfold stTouch
  cases h1 : standB a i <;> rw [h1] at c1
  · refine fn_enter tabOK mixes Tryz.func11 rfl rfl _ Tryz.ntmps11 _ Tryz.results11 (by simp) fun hwf => ?_
    try simp (config := { maxSteps := 10000000 }) only [go_sem]
    repeat (refine And.intro (by first | omega | (constructor <;> omega) | kernel_rfl) ?_)
    refine CallW.mk (c1) ?_
    try simp (config := { maxSteps := 10000000 }) only [go_sem]
    all_goals repeat (refine And.intro (by first | omega | (constructor <;> omega) | kernel_rfl) ?_)
    all_goals first | kernel_rfl | omega | rfl
  · cases h2 : standB b j <;> rw [h2] at c2
    · refine fn_enter tabOK mixes Tryz.func11 rfl rfl _ Tryz.ntmps11 _ Tryz.results11 (by simp) fun hwf => ?_
      try simp (config := { maxSteps := 10000000 }) only [go_sem]
      repeat (refine And.intro (by first | omega | (constructor <;> omega) | kernel_rfl) ?_)
      refine CallW.mk (c1) ?_
      try simp (config := { maxSteps := 10000000 }) only [go_sem]
      repeat (refine And.intro (by first | omega | (constructor <;> omega) | kernel_rfl) ?_)
      refine CallW.mk (c2) ?_
      try simp (config := { maxSteps := 10000000 }) only [go_sem]
      all_goals repeat (refine And.intro (by first | omega | (constructor <;> omega) | kernel_rfl) ?_)
      all_goals first | kernel_rfl | omega | rfl
    · have c3 := standsTouch_fn a i b j (standB_t h1) (standB_t h2)
      refine fn_enter tabOK mixes Tryz.func11 rfl rfl _ Tryz.ntmps11 _ Tryz.results11 (by simp) fun hwf => ?_
      try simp (config := { maxSteps := 10000000 }) only [go_sem]
      repeat (refine And.intro (by first | omega | (constructor <;> omega) | kernel_rfl) ?_)
      refine CallW.mk (c1) ?_
      try simp (config := { maxSteps := 10000000 }) only [go_sem]
      repeat (refine And.intro (by first | omega | (constructor <;> omega) | kernel_rfl) ?_)
      refine CallW.mk (c2) ?_
      try simp (config := { maxSteps := 10000000 }) only [go_sem]
      repeat (refine And.intro (by first | omega | (constructor <;> omega) | kernel_rfl) ?_)
      refine CallW.mk (c3) ?_
      try simp (config := { maxSteps := 10000000 }) only [go_sem]
      all_goals repeat (refine And.intro (by first | omega | (constructor <;> omega) | kernel_rfl) ?_)
      all_goals first | kernel_rfl | omega | rfl
theorem standO_t {t : DT} {k : Int} (h : standB t k = true) : standO t k = standP t k := if_pos h
theorem StandsTouchS_fn (a : DT) (i : Int) (b : DT) (j : Int) : Fn Tryz.prog 9 [⟨tTour, a⟩, ⟨.int, i⟩, ⟨tTour, b⟩, ⟨.int, j⟩] false [⟨.bool, stTouch a i b j⟩] := by
  have c1 := specStandOf_fn a i
  have c2 := specStandOf_fn b j
  unfold stTouch
  cases h1 : standB a i <;> rw [h1] at c1
  · refine fn_enter tabOK mixes Tryz.func9 rfl rfl _ Tryz.ntmps9 _ Tryz.results9 (by simp) fun hwf => ?_
    try simp (config := { maxSteps := 10000000 }) only [go_sem]
    repeat (refine And.intro (by first | omega | (constructor <;> omega) | kernel_rfl) ?_)
    refine CallW.t (c1) ?_
    try simp (config := { maxSteps := 10000000 }) only [go_sem]
    repeat (refine And.intro (by first | omega | (constructor <;> omega) | kernel_rfl) ?_)
    refine CallW.t (c2) ?_
    try simp (config := { maxSteps := 10000000 }) only [go_sem]
    all_goals repeat (refine And.intro (by first | omega | (constructor <;> omega) | kernel_rfl) ?_)
    all_goals first | kernel_rfl | omega | rfl
  · cases h2 : standB b j <;> rw [h2] at c2
    · refine fn_enter tabOK mixes Tryz.func9 rfl rfl _ Tryz.ntmps9 _ Tryz.results9 (by simp) fun hwf => ?_
      try simp (config := { maxSteps := 10000000 }) only [go_sem]
      repeat (refine And.intro (by first | omega | (constructor <;> omega) | kernel_rfl) ?_)
      refine CallW.t (c1) ?_
      try simp (config := { maxSteps := 10000000 }) only [go_sem]
      repeat (refine And.intro (by first | omega | (constructor <;> omega) | kernel_rfl) ?_)
      refine CallW.t (c2) ?_
      try simp (config := { maxSteps := 10000000 }) only [go_sem]
      all_goals repeat (refine And.intro (by first | omega | (constructor <;> omega) | kernel_rfl) ?_)
      all_goals first | kernel_rfl | omega | rfl
    · have ha := standB_t h1
      have hb := standB_t h2
      have p1 := (tour_parts ha).1
      have p2 := (tour_parts hb).1
      have l1 := p1.five
      have l2 := p2.five
      rw [standO_t h1] at c1
      rw [standO_t h2] at c2
      have c3 := TurnPolygonS_fn a.1 (standP a i).1 p1.ok (by omega) (standP_hd ha i)
      have c4 := TurnPolygonS_fn b.1 (standP b j).1 p2.ok (by omega) (standP_hd hb j)
      have c5 := ObstacleForS_fn _ _ (robD_sm ha i) (robD_sm hb j) (by decide)
      have c6 := specSubtractPoints_fn (standP a i).2 (standP b j).2
      have c7 := ContainsS_fn (areaD a i b j) (subP (standP a i).2 (standP b j).2) (areaD_poly ha hb i j)
      unfold robD at c5
      unfold areaD robD at c7
      unfold stTB areaD robD
      refine fn_enter tabOK mixes Tryz.func9 rfl rfl _ Tryz.ntmps9 _ Tryz.results9 (by simp) fun hwf => ?_
      try simp (config := { maxSteps := 10000000 }) only [go_sem]
      repeat (refine And.intro (by first | omega | (constructor <;> omega) | kernel_rfl) ?_)
      refine CallW.t (c1) ?_
      try simp (config := { maxSteps := 10000000 }) only [go_sem]
      repeat (refine And.intro (by first | omega | (constructor <;> omega) | kernel_rfl) ?_)
      refine CallW.t (c2) ?_
      try simp (config := { maxSteps := 10000000 }) only [go_sem]
      repeat (refine And.intro (by first | omega | (constructor <;> omega) | kernel_rfl) ?_)
      repeat (refine And.intro (by first | omega | (constructor <;> omega) | kernel_rfl) ?_)
      refine CallW.mk (c3) ?_
      try simp (config := { maxSteps := 10000000 }) only [go_sem]
      repeat (refine And.intro (by first | omega | (constructor <;> omega) | kernel_rfl) ?_)
      refine CallW.mk (c4) ?_
      try simp (config := { maxSteps := 10000000 }) only [go_sem]
      repeat (refine And.intro (by first | omega | (constructor <;> omega) | kernel_rfl) ?_)
      refine CallW.mk (c5) ?_
      try simp (config := { maxSteps := 10000000 }) only [go_sem]
      repeat (refine And.intro (by first | omega | (constructor <;> omega) | kernel_rfl) ?_)
      repeat (refine And.intro (by first | omega | (constructor <;> omega) | kernel_rfl) ?_)
      refine CallW.mx (c6) ?_
      try simp (config := { maxSteps := 10000000 }) only [go_sem]
      repeat (refine And.intro (by first | omega | (constructor <;> omega) | kernel_rfl) ?_)
      refine CallW.mx (c7) ?_
      try simp (config := { maxSteps := 10000000 }) only [go_sem]
      all_goals repeat (refine And.intro (by first | omega | (constructor <;> omega) | kernel_rfl) ?_)
      all_goals first | kernel_rfl | omega | rfl
end Go.Proofs.YtghckbohaghgkaaGreat.DW

/-
  The laws' helpers for vectors and tours, as contracts on data.
-/
namespace Go.Proofs.YtghckbohaghgkaaGreat
open Go.RowKit
abbrev DVec := Int × Int
abbrev RVec : Rp DVec := Rp.prod Rp.int Rp.int
abbrev DVecS := List DVec
abbrev RVecS : Rp DVecS := Rp.slice RVec (by decide)
abbrev DTour := DVecS × (DPlacement × DStepS)
abbrev RTour : Rp DTour := Rp.prod RVecS (Rp.prod RPlacement RStepS)
def tTour (x : DTour) : Nat := (x.1.length + tPlacement x.2.1) + (x.2.2.length + tStepS x.2.2)
theorem list9 {α : Type} {l : List α} (h : l.length = 9) : ∃ c0 c1 c2 c3 c4 c5 c6 c7 c8, l = [c0, c1, c2, c3, c4, c5, c6, c7, c8] := by
  match l, h with
  | [c0, c1, c2, c3, c4, c5, c6, c7, c8], _ => exact ⟨c0, c1, c2, c3, c4, c5, c6, c7, c8, rfl⟩
namespace DW
theorem szVecS_fn (x : DVecS) (left : Int) (h0 : 0 ≤ left) (h1 : left ≤ 1048576) : Fn Tryz.prog 30 [⟨.slice DW.tVec, x⟩, ⟨.int, left⟩] false [⟨.int, szr left x.length⟩] := by
  by_cases h : (x.length : Int) ≤ left
  · rw [← szr_ge h]
    have d := decide_eq_false (p := left - (x.length : Int) < 0) (by omega)
    refine fn_enter tabOK mixes Tryz.func30 rfl rfl _ Tryz.ntmps30 _ Tryz.results30 (by simp) fun hwf => ?_
    have hl : x.length ≤ 9223372036854775807 := (hwf ⟨.slice DW.tVec, x⟩ (by simp)).1
    try simp (config := { maxSteps := 10000000 }) only [go_sem]
    repeat (refine And.intro (by first | omega | (constructor <;> omega) | kernel_rfl) ?_)
    try simp (config := { maxSteps := 10000000 }) only [go_sem, d]
    all_goals repeat (refine And.intro (by first | omega | (constructor <;> omega) | kernel_rfl) ?_)
    all_goals first | kernel_rfl | omega | rfl
  · rw [← szr_lt (by omega)]
    have d := decide_eq_true (p := left - (x.length : Int) < 0) (by omega)
    refine fn_enter tabOK mixes Tryz.func30 rfl rfl _ Tryz.ntmps30 _ Tryz.results30 (by simp) fun hwf => ?_
    have hl : x.length ≤ 9223372036854775807 := (hwf ⟨.slice DW.tVec, x⟩ (by simp)).1
    try simp (config := { maxSteps := 10000000 }) only [go_sem]
    repeat (refine And.intro (by first | omega | (constructor <;> omega) | kernel_rfl) ?_)
    try simp (config := { maxSteps := 10000000 }) only [go_sem, d]
    all_goals repeat (refine And.intro (by first | omega | (constructor <;> omega) | kernel_rfl) ?_)
    all_goals first | kernel_rfl | omega | rfl
theorem toVec_fn (x : DVec) : Fn Tryz.prog 80 [⟨DW.tVec, x⟩] false [⟨DW.tVec, x⟩] := by
  refine fn_enter tabOK mixes Tryz.func80 rfl rfl _ Tryz.ntmps80 _ Tryz.results80 (by simp) fun hwf => ?_
  try simp (config := { maxSteps := 10000000 }) only [go_sem]
  all_goals repeat (refine And.intro (by first | omega | (constructor <;> omega) | kernel_rfl) ?_)
  all_goals first | kernel_rfl | omega | rfl
theorem toVecS_fn (x : DVecS) (hs : x.length ≤ 1048576) : Fn Tryz.prog 38 [⟨.slice DW.tVec, x⟩] true [⟨.slice DW.tVec, x⟩] := by
  refine fn_enter tabOK mixes Tryz.func38 rfl rfl _ Tryz.ntmps38 _ Tryz.results38 (by simp) fun hwf => ?_
  try simp (config := { maxSteps := 10000000 }) only [go_sem]
  repeat (refine And.intro (by first | omega | (constructor <;> omega) | kernel_rfl) ?_)
  refine LoopG.intro _ _ _ (fun i : Nat => ⟨[(0, .sl DW.tVec x), (3, .row 0 0), (4, .sc (.int .i64 i))], [(0, .row 113 DW.tVec 0 true (x.take i ++ List.replicate (x.length - i) ((0 : Int), (0 : Int))))]⟩) (fun i => i ≤ x.length) (fun i => x.length - i) 0 ?_ (Nat.zero_le _) ?_
  · refine Wk.mk [] ?_
    try simp (config := { maxSteps := 10000000 }) only [go_sem]
    try (and_intros <;> first | rfl | omega | exact ⟨_, rfl⟩)
  · rintro i hi
    have hlen : (x.take i ++ List.replicate (x.length - i) ((0 : Int), (0 : Int))).length = x.length := by simp; omega
    try simp (config := { maxSteps := 10000000 }) only [go_sem]
    refine CondW_dec (fun hA => ?_) (fun hA => ?_)
    · have hset : (x.take i ++ List.replicate (x.length - i) ((0 : Int), (0 : Int))).set i (nth (t := DW.tVec) x i) = x.take (i + 1) ++ List.replicate (x.length - (i + 1)) ((0 : Int), (0 : Int)) := by
        have hlt : i < x.length := by omega
        rw [List.set_append_right _ _ (by rw [List.length_take]; omega), List.length_take, show i - min i x.length = 0 by omega, show x.length - i = (x.length - (i + 1)) + 1 by omega, List.replicate_succ, List.set_cons_zero, nth_lt hlt]
        have e : x.take (i + 1) = x.take i ++ [x[i]] := List.take_succ_eq_append_getElem hlt
        rw [e, List.append_assoc]; rfl
      have ht : (List.take i x).length = i := by rw [List.length_take]; omega
      have c1 := toVec_fn (nth (t := DW.tVec) x i)
      try simp (config := { maxSteps := 10000000 }) only [go_sem]
      repeat (refine And.intro (by first | omega | (constructor <;> omega) | kernel_rfl) ?_)
      repeat (refine And.intro (by first | omega | (constructor <;> omega) | kernel_rfl) ?_)
      refine CallW.mk (c1) ?_
      try simp (config := { maxSteps := 10000000 }) only [go_sem]
      repeat (refine And.intro (by first | omega | (constructor <;> omega) | kernel_rfl) ?_)
      refine LoopK.mk (i + 1) ?_ (by omega) (by omega)
      rw [← hset]
      refine Wk.mk [] ?_
      try simp (config := { maxSteps := 10000000 }) only [go_sem]
      try (and_intros <;> first | rfl | omega | exact ⟨_, rfl⟩)
    · have : x.take i ++ List.replicate (x.length - i) ((0 : Int), (0 : Int)) = x := by
        rw [List.take_of_length_le (by omega), show x.length - i = 0 by omega]; simp
      rw [this]
      try simp (config := { maxSteps := 10000000 }) only [go_sem]
      all_goals repeat (refine And.intro (by first | omega | (constructor <;> omega) | kernel_rfl) ?_)
      all_goals first | kernel_rfl | omega | rfl
theorem eqVec_fn (x y : DVec) : Fn Tryz.prog 88 [⟨DW.tVec, x⟩, ⟨DW.tVec, y⟩] false [⟨.bool, eqb x y⟩] := by
  by_cases h1 : x.1 = y.1
  · have d1 := decide_eq_true h1
    by_cases h2 : x.2 = y.2
    · have d2 := decide_eq_true h2
      rw [eqb_true (Prod.ext h1 h2)]
      refine fn_enter tabOK mixes Tryz.func88 rfl rfl _ Tryz.ntmps88 _ Tryz.results88 (by simp) fun hwf => ?_
      try simp (config := { maxSteps := 10000000 }) only [go_sem, d1, d2]
    · have d2 := decide_eq_false h2
      rw [eqb_false (fun h => h2 (by rw [h]))]
      refine fn_enter tabOK mixes Tryz.func88 rfl rfl _ Tryz.ntmps88 _ Tryz.results88 (by simp) fun hwf => ?_
      try simp (config := { maxSteps := 10000000 }) only [go_sem, d1, d2]
  · have d1 := decide_eq_false h1
    rw [eqb_false (fun h => h1 (by rw [h]))]
    refine fn_enter tabOK mixes Tryz.func88 rfl rfl _ Tryz.ntmps88 _ Tryz.results88 (by simp) fun hwf => ?_
    try simp (config := { maxSteps := 10000000 }) only [go_sem, d1]
theorem eqVecS_fn (x y : DVecS) : Fn Tryz.prog 43 [⟨.slice DW.tVec, x⟩, ⟨.slice DW.tVec, y⟩] false [⟨.bool, eqb x y⟩] := by
  by_cases h0 : (x.length : Int) = y.length
  · have d0 := decide_eq_true h0
    refine fn_enter tabOK mixes Tryz.func43 rfl rfl _ Tryz.ntmps43 _ Tryz.results43 (by simp) fun hwf => ?_
    have hl : x.length ≤ 9223372036854775807 := (hwf ⟨.slice DW.tVec, x⟩ (by simp)).1
    try simp (config := { maxSteps := 10000000 }) only [go_sem, d0]
    refine LoopG.intro _ _ _ (fun i : Nat => ⟨[(0, .sl DW.tVec x), (1, .sl DW.tVec y), (5, .sc (.int .i64 i))], []⟩) (fun i => ∀ j, j < i → j < x.length → nth (t := DW.tVec) x j = nth (t := DW.tVec) y j) (fun i => x.length - i) 0 ?_ (fun j h => absurd h (Nat.not_lt_zero _)) ?_
    · refine Wk.mk [] ?_
      try simp (config := { maxSteps := 10000000 }) only [go_sem]
      try (and_intros <;> first | rfl | omega | exact ⟨_, rfl⟩)
    · rintro i hi
      try simp (config := { maxSteps := 10000000 }) only [go_sem]
      refine CondW_dec (fun hA => ?_) (fun hA => ?_)
      · have c1 := eqVec_fn (nth (t := DW.tVec) x i) (nth (t := DW.tVec) y i)
        by_cases e : nth (t := DW.tVec) x i = nth (t := DW.tVec) y i
        · rw [eqb_true e] at c1
          try simp (config := { maxSteps := 10000000 }) only [go_sem]
          repeat (refine And.intro (by first | omega | (constructor <;> omega) | kernel_rfl) ?_)
          repeat (refine And.intro (by first | omega | (constructor <;> omega) | kernel_rfl) ?_)
          refine CallW.mk (c1) ?_
          try simp (config := { maxSteps := 10000000 }) only [go_sem]
          repeat (refine And.intro (by first | omega | (constructor <;> omega) | kernel_rfl) ?_)
          refine LoopK.mk (i + 1) ?_ (fun j h1 h2 => ?_) (by omega)
          · refine Wk.mk [] ?_
            try simp (config := { maxSteps := 10000000 }) only [go_sem]
            try (and_intros <;> first | rfl | omega | exact ⟨_, rfl⟩)
          · by_cases h3 : j < i
            · exact hi j h3 h2
            · rw [show j = i by omega]; exact e
        · rw [eqb_false e] at c1
          rw [eqb_false (fun h => e (by rw [h]))]
          try simp (config := { maxSteps := 10000000 }) only [go_sem]
          repeat (refine And.intro (by first | omega | (constructor <;> omega) | kernel_rfl) ?_)
          repeat (refine And.intro (by first | omega | (constructor <;> omega) | kernel_rfl) ?_)
          refine CallW.mk (c1) ?_
          try simp (config := { maxSteps := 10000000 }) only [go_sem]
          all_goals repeat (refine And.intro (by first | omega | (constructor <;> omega) | kernel_rfl) ?_)
          all_goals first | kernel_rfl | omega | rfl
      · have : x = y := by
          refine List.ext_getElem (by omega) fun j h1 h2 => ?_
          have := hi j (by omega) h1
          rwa [nth_lt h1, nth_lt h2] at this
        rw [eqb_true this]
        try simp (config := { maxSteps := 10000000 }) only [go_sem]
  · have d0 := decide_eq_false h0
    rw [eqb_false (fun h => h0 (by rw [h]))]
    refine fn_enter tabOK mixes Tryz.func43 rfl rfl _ Tryz.ntmps43 _ Tryz.results43 (by simp) fun hwf => ?_
    try simp (config := { maxSteps := 10000000 }) only [go_sem, d0]
theorem szTour_fn (x : DTour) (left : Int) (h0 : 0 ≤ left) (h1 : left ≤ 1048576) : Fn Tryz.prog 8 [⟨DW.tTour, x⟩, ⟨.int, left⟩] false [⟨.int, szr left (Go.Proofs.YtghckbohaghgkaaGreat.tTour x)⟩] := by
  obtain ⟨r, p, l⟩ := x
  have c1 := szVecS_fn r left h0 h1
  have r1 := szr_lo left r.length h0
  have hT : Go.Proofs.YtghckbohaghgkaaGreat.tTour (r, p, l) = (r.length + tPlacement p) + (l.length + tStepS l) := rfl
  by_cases e1 : szr left r.length < 0
  · have d1 := decide_eq_true e1
    rw [← szr_fail e1 (b := Go.Proofs.YtghckbohaghgkaaGreat.tTour (r, p, l)) (by omega)]
    refine fn_enter tabOK mixes Tryz.func8 rfl rfl _ Tryz.ntmps8 _ Tryz.results8 (by simp) fun hwf => ?_
    try simp (config := { maxSteps := 10000000 }) only [go_sem]
    repeat (refine And.intro (by first | omega | (constructor <;> omega) | kernel_rfl) ?_)
    refine CallW.mk (c1) ?_
    try simp (config := { maxSteps := 10000000 }) only [go_sem]
    try simp (config := { maxSteps := 10000000 }) only [go_sem, d1]
    all_goals repeat (refine And.intro (by first | omega | (constructor <;> omega) | kernel_rfl) ?_)
    all_goals first | kernel_rfl | omega | rfl
  · have d1 := decide_eq_false e1
    have c2 := szPlacement_fn p (szr left r.length) (by omega) (by omega)
    have r2 := szr_lo (szr left r.length) (tPlacement p) (by omega)
    have a2 := szr_add left r.length (tPlacement p) (by omega)
    by_cases e2 : szr (szr left r.length) (tPlacement p) < 0
    · have d2 := decide_eq_true e2
      rw [← szr_fail (by rw [← a2]; exact e2) (a := r.length + tPlacement p) (b := Go.Proofs.YtghckbohaghgkaaGreat.tTour (r, p, l)) (by omega)]
      refine fn_enter tabOK mixes Tryz.func8 rfl rfl _ Tryz.ntmps8 _ Tryz.results8 (by simp) fun hwf => ?_
      try simp (config := { maxSteps := 10000000 }) only [go_sem]
      repeat (refine And.intro (by first | omega | (constructor <;> omega) | kernel_rfl) ?_)
      refine CallW.mk (c1) ?_
      try simp (config := { maxSteps := 10000000 }) only [go_sem]
      try simp (config := { maxSteps := 10000000 }) only [go_sem, d1]
      repeat (refine And.intro (by first | omega | (constructor <;> omega) | kernel_rfl) ?_)
      refine CallW.mk (c2) ?_
      try simp (config := { maxSteps := 10000000 }) only [go_sem]
      try simp (config := { maxSteps := 10000000 }) only [go_sem, d2]
      all_goals repeat (refine And.intro (by first | omega | (constructor <;> omega) | kernel_rfl) ?_)
      all_goals first | kernel_rfl | omega | rfl
    · have d2 := decide_eq_false e2
      have c3 := szStepS_fn l (szr (szr left r.length) (tPlacement p)) (by omega) (by omega)
      have r3 := szr_lo (szr (szr left r.length) (tPlacement p)) (l.length + tStepS l) (by omega)
      have a3 := szr_add left (r.length + tPlacement p) (l.length + tStepS l) (by rw [← a2]; omega)
      rw [← a2] at a3
      rw [hT, ← a3]
      by_cases e3 : szr (szr (szr left r.length) (tPlacement p)) (l.length + tStepS l) < 0
      · have d3 := decide_eq_true e3
        have e4 : szr (szr (szr left r.length) (tPlacement p)) (l.length + tStepS l) = -1 := by omega
        rw [e4] at d3 c3 ⊢
        refine fn_enter tabOK mixes Tryz.func8 rfl rfl _ Tryz.ntmps8 _ Tryz.results8 (by simp) fun hwf => ?_
        try simp (config := { maxSteps := 10000000 }) only [go_sem]
        repeat (refine And.intro (by first | omega | (constructor <;> omega) | kernel_rfl) ?_)
        refine CallW.mk (c1) ?_
        try simp (config := { maxSteps := 10000000 }) only [go_sem]
        try simp (config := { maxSteps := 10000000 }) only [go_sem, d1]
        repeat (refine And.intro (by first | omega | (constructor <;> omega) | kernel_rfl) ?_)
        refine CallW.mk (c2) ?_
        try simp (config := { maxSteps := 10000000 }) only [go_sem]
        try simp (config := { maxSteps := 10000000 }) only [go_sem, d2]
        repeat (refine And.intro (by first | omega | (constructor <;> omega) | kernel_rfl) ?_)
        refine CallW.mk (c3) ?_
        try simp (config := { maxSteps := 10000000 }) only [go_sem]
        all_goals repeat (refine And.intro (by first | omega | (constructor <;> omega) | kernel_rfl) ?_)
        all_goals first | kernel_rfl | omega | rfl
      · have d3 := decide_eq_false e3
        refine fn_enter tabOK mixes Tryz.func8 rfl rfl _ Tryz.ntmps8 _ Tryz.results8 (by simp) fun hwf => ?_
        try simp (config := { maxSteps := 10000000 }) only [go_sem]
        repeat (refine And.intro (by first | omega | (constructor <;> omega) | kernel_rfl) ?_)
        refine CallW.mk (c1) ?_
        try simp (config := { maxSteps := 10000000 }) only [go_sem]
        try simp (config := { maxSteps := 10000000 }) only [go_sem, d1]
        repeat (refine And.intro (by first | omega | (constructor <;> omega) | kernel_rfl) ?_)
        refine CallW.mk (c2) ?_
        try simp (config := { maxSteps := 10000000 }) only [go_sem]
        try simp (config := { maxSteps := 10000000 }) only [go_sem, d2]
        repeat (refine And.intro (by first | omega | (constructor <;> omega) | kernel_rfl) ?_)
        refine CallW.mk (c3) ?_
        try simp (config := { maxSteps := 10000000 }) only [go_sem]
        try simp (config := { maxSteps := 10000000 }) only [go_sem, d3]
        all_goals repeat (refine And.intro (by first | omega | (constructor <;> omega) | kernel_rfl) ?_)
        all_goals first | kernel_rfl | omega | rfl
theorem toTour_fn (x : DTour) (hs : Go.Proofs.YtghckbohaghgkaaGreat.tTour x ≤ 1048576) : Fn Tryz.prog 10 [⟨DW.tTour, x⟩] true [⟨DW.tTour, x⟩] := by
  obtain ⟨r, p, l⟩ := x
  have hT : Go.Proofs.YtghckbohaghgkaaGreat.tTour (r, p, l) = (r.length + tPlacement p) + (l.length + tStepS l) := rfl
  have c1 := toVecS_fn r (by omega)
  have c2 := toPlacement_fn p (by omega)
  have c3 := toStepS_fn l (by omega)
  refine fn_enter tabOK mixes Tryz.func10 rfl rfl _ Tryz.ntmps10 _ Tryz.results10 (by simp) fun hwf => ?_
  try simp (config := { maxSteps := 10000000 }) only [go_sem]
  repeat (refine And.intro (by first | omega | (constructor <;> omega) | kernel_rfl) ?_)
  refine CallW.mk (c1) ?_
  try simp (config := { maxSteps := 10000000 }) only [go_sem]
  repeat (refine And.intro (by first | omega | (constructor <;> omega) | kernel_rfl) ?_)
  refine CallW.mk (c2) ?_
  try simp (config := { maxSteps := 10000000 }) only [go_sem]
  repeat (refine And.intro (by first | omega | (constructor <;> omega) | kernel_rfl) ?_)
  refine CallW.mk (c3) ?_
  try simp (config := { maxSteps := 10000000 }) only [go_sem]
  all_goals repeat (refine And.intro (by first | omega | (constructor <;> omega) | kernel_rfl) ?_)
  all_goals first | kernel_rfl | omega | rfl
theorem eqTour_fn (x y : DTour) : Fn Tryz.prog 12 [⟨DW.tTour, x⟩, ⟨DW.tTour, y⟩] false [⟨.bool, eqb x y⟩] := by
  obtain ⟨r, p, l⟩ := x
  obtain ⟨r', p', l'⟩ := y
  have c1 := eqVecS_fn r r'
  have c2 := eqPlacement_fn p p'
  have c3 := eqStepS_fn l l'
  by_cases e1 : r = r'
  · rw [eqb_true e1] at c1
    by_cases e2 : p = p'
    · rw [eqb_true e2] at c2
      by_cases e3 : l = l'
      · rw [eqb_true e3] at c3
        rw [eqb_true (by rw [e1, e2, e3])]
        refine fn_enter tabOK mixes Tryz.func12 rfl rfl _ Tryz.ntmps12 _ Tryz.results12 (by simp) fun hwf => ?_
        try simp (config := { maxSteps := 10000000 }) only [go_sem]
        repeat (refine And.intro (by first | omega | (constructor <;> omega) | kernel_rfl) ?_)
        refine CallW.mk (c1) ?_
        try simp (config := { maxSteps := 10000000 }) only [go_sem]
        repeat (refine And.intro (by first | omega | (constructor <;> omega) | kernel_rfl) ?_)
        refine CallW.mk (c2) ?_
        try simp (config := { maxSteps := 10000000 }) only [go_sem]
        repeat (refine And.intro (by first | omega | (constructor <;> omega) | kernel_rfl) ?_)
        refine CallW.mk (c3) ?_
        try simp (config := { maxSteps := 10000000 }) only [go_sem]
      · rw [eqb_false e3] at c3
        rw [eqb_false (fun h => e3 (congrArg (fun z => z.2.2) h))]
        refine fn_enter tabOK mixes Tryz.func12 rfl rfl _ Tryz.ntmps12 _ Tryz.results12 (by simp) fun hwf => ?_
        try simp (config := { maxSteps := 10000000 }) only [go_sem]
        repeat (refine And.intro (by first | omega | (constructor <;> omega) | kernel_rfl) ?_)
        refine CallW.mk (c1) ?_
        try simp (config := { maxSteps := 10000000 }) only [go_sem]
        repeat (refine And.intro (by first | omega | (constructor <;> omega) | kernel_rfl) ?_)
        refine CallW.mk (c2) ?_
        try simp (config := { maxSteps := 10000000 }) only [go_sem]
        repeat (refine And.intro (by first | omega | (constructor <;> omega) | kernel_rfl) ?_)
        refine CallW.mk (c3) ?_
        try simp (config := { maxSteps := 10000000 }) only [go_sem]
    · rw [eqb_false e2] at c2
      rw [eqb_false (fun h => e2 (congrArg (fun z => z.2.1) h))]
      refine fn_enter tabOK mixes Tryz.func12 rfl rfl _ Tryz.ntmps12 _ Tryz.results12 (by simp) fun hwf => ?_
      try simp (config := { maxSteps := 10000000 }) only [go_sem]
      repeat (refine And.intro (by first | omega | (constructor <;> omega) | kernel_rfl) ?_)
      refine CallW.mk (c1) ?_
      try simp (config := { maxSteps := 10000000 }) only [go_sem]
      repeat (refine And.intro (by first | omega | (constructor <;> omega) | kernel_rfl) ?_)
      refine CallW.mk (c2) ?_
      try simp (config := { maxSteps := 10000000 }) only [go_sem]
  · rw [eqb_false e1] at c1
    rw [eqb_false (fun h => e1 (congrArg (fun z => z.1) h))]
    refine fn_enter tabOK mixes Tryz.func12 rfl rfl _ Tryz.ntmps12 _ Tryz.results12 (by simp) fun hwf => ?_
    try simp (config := { maxSteps := 10000000 }) only [go_sem]
    repeat (refine And.intro (by first | omega | (constructor <;> omega) | kernel_rfl) ?_)
    refine CallW.mk (c1) ?_
    try simp (config := { maxSteps := 10000000 }) only [go_sem]
end DW
end Go.Proofs.YtghckbohaghgkaaGreat

/-
  The arguments' types of this program, opened: vectors and tours.
-/
namespace Go.Proofs.YtghckbohaghgkaaGreat
open Go.RowKit
section
variable {H : Type} {enc : TypeId × Value → H} {w : World} {P : Program}
theorem Opens.prod3 {α β γ : Type} {t : TypeId} {A : Rp α} {B : Rp β} {C : Rp γ} {f0 f1 f2 : Field} (ht : P.underlying t = some (.struct #[f0, f1, f2])) (o0 : f0.offset = 0) (o1 : f1.offset = A.size) (o2 : f2.offset = A.size + B.size)
    (s0 : P.cellsOf f0.type = A.size) (s1 : P.cellsOf f1.type = B.size) (s2 : P.cellsOf f2.type = C.size) (s : P.cellsOf t = A.size + (B.size + C.size)) (h0 : Opens enc P w f0.type A) (h1 : Opens enc P w f1.type B) (h2 : Opens enc P w f2.type C) : Opens enc P w t (Rp.prod A (Rp.prod B C)) := fun fuel cs x h => by
  obtain ⟨xs, n, _, _, hl, hxl, hf⟩ := DataW.trod_struct ht h
  have e0 := hf 0 f0 rfl
  have e1 := hf 1 f1 rfl
  have e2 := hf 2 f2 rfl
  have hxl' : xs.length = 3 := hxl
  rw [o0, s0, List.getElem?_eq_getElem (by omega)] at e0
  rw [o1, s1, List.getElem?_eq_getElem (by omega)] at e1
  rw [o2, s2, List.getElem?_eq_getElem (by omega)] at e2
  obtain ⟨a, fa, ra⟩ := h0 _ _ _ e0
  obtain ⟨b, fb, rb⟩ := h1 _ _ _ e1
  obtain ⟨c, fc, rc⟩ := h2 _ _ _ e2
  refine ⟨(a, b, c), fa ++ (fb ++ fc), _, cs.drop A.size, fa, fb ++ fc, ?_, rfl, ra, _, _, fb, fc, ?_, rfl, rb, rc⟩
  · rw [List.drop_zero, List.take_append_drop]
  · rw [← List.drop_drop, List.take_of_length_le (show ((cs.drop A.size).drop B.size).length ≤ C.size by simp; omega), List.take_append_drop]
theorem oVec : Opens enc Tryz.prog w 123 RVec := Opens.prod Tryz.underlying123 rfl rfl (by kernel_rfl) (by kernel_rfl) (by kernel_rfl) oInt oInt
theorem oVecS : Opens enc Tryz.prog w 22 RVecS := Opens.slice Tryz.underlying22 (by kernel_rfl) oVec
theorem oTour : Opens enc Tryz.prog w 34 RTour := Opens.prod3 Tryz.underlying34 rfl rfl rfl (by kernel_rfl) (by kernel_rfl) (by kernel_rfl) (by kernel_rfl) oVecS oPlacement oStepS
end
end Go.Proofs.YtghckbohaghgkaaGreat

/-
  The law FnExactStandsTouch returns true: the walk through it on data, by the contracts.
-/
namespace Go.Proofs.YtghckbohaghgkaaGreat.DW
open Go.RowKit

set_option maxRecDepth 100000 in
set_option maxHeartbeats 8000000 in
theorem lawStandsTouch_fn (x0 : DTour) (n1 : Int) (x2 : DTour) (n3 : Int) : Fn Tryz.prog 3 [⟨DW.tTour, x0⟩, ⟨.int, n1⟩, ⟨DW.tTour, x2⟩, ⟨.int, n3⟩] false [⟨.bool, true⟩] := by
  refine fn_enter tabOK mixes Tryz.func3 rfl rfl _ Tryz.ntmps3 _ Tryz.results3 (by simp) fun hwf => ?_
  have hI1 : I64 n1 := hwf ⟨.int, n1⟩ (by simp)
  have hI3 : I64 n3 := hwf ⟨.int, n3⟩ (by simp)
  try simp (config := { maxSteps := 10000000 }) only [go_sem]
  repeat (refine And.intro (by first | omega | (constructor <;> omega) | kernel_rfl) ?_)
  refine CallW.mk (szTour_fn x0 1048576 (by omega) (by omega)) ?_
  try simp (config := { maxSteps := 10000000 }) only [go_sem]
  repeat (refine And.intro (by first | omega | (constructor <;> omega) | kernel_rfl) ?_)
  have hr0 := szr_lo 1048576 (Go.Proofs.YtghckbohaghgkaaGreat.tTour x0) (by omega)
  refine CondW_dec (fun hlt => ?_) (fun hge0 => ?_)
  · try simp (config := { maxSteps := 10000000 }) only [go_sem]
  have hge0' : 0 ≤ szr 1048576 (Go.Proofs.YtghckbohaghgkaaGreat.tTour x0) := by omega
  try simp (config := { maxSteps := 10000000 }) only [go_sem]
  repeat (refine And.intro (by first | omega | (constructor <;> omega) | kernel_rfl) ?_)
  refine CallW.mk (szTour_fn x2 (szr 1048576 (Go.Proofs.YtghckbohaghgkaaGreat.tTour x0)) (by omega) (by omega)) ?_
  try simp (config := { maxSteps := 10000000 }) only [go_sem]
  repeat (refine And.intro (by first | omega | (constructor <;> omega) | kernel_rfl) ?_)
  have hr1 := szr_lo (szr 1048576 (Go.Proofs.YtghckbohaghgkaaGreat.tTour x0)) (Go.Proofs.YtghckbohaghgkaaGreat.tTour x2) (by omega)
  refine CondW_dec (fun hlt => ?_) (fun hge1 => ?_)
  · try simp (config := { maxSteps := 10000000 }) only [go_sem]
  have hge1' : 0 ≤ szr (szr 1048576 (Go.Proofs.YtghckbohaghgkaaGreat.tTour x0)) (Go.Proofs.YtghckbohaghgkaaGreat.tTour x2) := by omega
  have hs0 := (szr_ok hge0').1
  have hs1 := (szr_ok hge1').1
  have hle0 : Go.Proofs.YtghckbohaghgkaaGreat.tTour x0 ≤ 1048576 := by omega
  have hle2 : Go.Proofs.YtghckbohaghgkaaGreat.tTour x2 ≤ 1048576 := by omega
  clear hr0 hs0 hge0 hge0' hr1 hs1 hge1 hge1'
  try simp (config := { maxSteps := 10000000 }) only [go_sem]
  repeat (refine And.intro (by first | omega | (constructor <;> omega) | kernel_rfl) ?_)
  refine CallW.mk (toTour_fn x0 hle0) ?_
  try simp (config := { maxSteps := 10000000 }) only [go_sem]
  repeat (refine And.intro (by first | omega | (constructor <;> omega) | kernel_rfl) ?_)
  refine CallW.mk (toTour_fn x2 hle2) ?_
  try simp (config := { maxSteps := 10000000 }) only [go_sem]
  repeat (refine And.intro (by first | omega | (constructor <;> omega) | kernel_rfl) ?_)
  refine CallW.mk (StandsTouchS_fn x0 n1 x2 n3) ?_
  try simp (config := { maxSteps := 10000000 }) only [go_sem]
  repeat (refine And.intro (by first | omega | (constructor <;> omega) | kernel_rfl) ?_)
  refine CallW.mx (toTour_fn x0 hle0) ?_
  try simp (config := { maxSteps := 10000000 }) only [go_sem]
  repeat (refine And.intro (by first | omega | (constructor <;> omega) | kernel_rfl) ?_)
  refine CallW.mx (toTour_fn x2 hle2) ?_
  try simp (config := { maxSteps := 10000000 }) only [go_sem]
  repeat (refine And.intro (by first | omega | (constructor <;> omega) | kernel_rfl) ?_)
  refine CallW.mx (StandsTouchI_fn x0 n1 x2 n3) ?_
  try simp (config := { maxSteps := 10000000 }) only [go_sem]
  repeat (refine And.intro (by first | omega | (constructor <;> omega) | kernel_rfl) ?_)
  refine CallW.mk (toTour_fn x0 hle0) ?_
  try simp (config := { maxSteps := 10000000 }) only [go_sem]
  repeat (refine And.intro (by first | omega | (constructor <;> omega) | kernel_rfl) ?_)
  refine CallW.mx (eqTour_fn x0 x0) ?_
  try simp (config := { maxSteps := 10000000 }) only [go_sem]
  repeat (refine And.intro (by first | omega | (constructor <;> omega) | kernel_rfl) ?_)
  refine CallW.mk (toTour_fn x2 hle2) ?_
  try simp (config := { maxSteps := 10000000 }) only [go_sem]
  repeat (refine And.intro (by first | omega | (constructor <;> omega) | kernel_rfl) ?_)
  refine CallW.mx (eqTour_fn x2 x2) ?_
  try simp (config := { maxSteps := 10000000 }) only [go_sem]
  all_goals repeat (refine And.intro (by first | omega | (constructor <;> omega) | kernel_rfl) ?_)
  all_goals first | kernel_rfl | omega | rfl
end Go.Proofs.YtghckbohaghgkaaGreat.DW
namespace Go.Proofs.YtghckbohaghgkaaGreat
open Go.RowKit DW
theorem law_FnExactStandsTouch (a0_0 a0_1 a0_2 a0_3 a0_4 a0_5 a0_6 a0_7 a0_8 : Value) (x0 : DTour) (n1 : Int) (a2_0 a2_1 a2_2 a2_3 a2_4 a2_5 a2_6 a2_7 a2_8 : Value) (x2 : DTour) (n3 : Int) (w : World) (hx0 : Has RTour w [a0_0, a0_1, a0_2, a0_3, a0_4, a0_5, a0_6, a0_7, a0_8] x0) (hI1 : I64 n1) (hx2 : Has RTour w [a2_0, a2_1, a2_2, a2_3, a2_4, a2_5, a2_6, a2_7, a2_8] x2) (hI3 : I64 n3) :
    Calls Tryz.prog 3 #[.agg #[a0_0, a0_1, a0_2, a0_3, a0_4, a0_5, a0_6, a0_7, a0_8], .int .i64 n1, .agg #[a2_0, a2_1, a2_2, a2_3, a2_4, a2_5, a2_6, a2_7, a2_8], .int .i64 n3] w (Post fun r w' => r = .bool true ∧ Below w.heap.size w w') :=
  (DW.lawStandsTouch_fn x0 n1 x2 n3).bool (vs := [.agg #[a0_0, a0_1, a0_2, a0_3, a0_4, a0_5, a0_6, a0_7, a0_8], .int .i64 n1, .agg #[a2_0, a2_1, a2_2, a2_3, a2_4, a2_5, a2_6, a2_7, a2_8], .int .i64 n3]) ⟨Arg.agg (t := DW.tTour) (cs := [a0_0, a0_1, a0_2, a0_3, a0_4, a0_5, a0_6, a0_7, a0_8]) rfl hx0, Arg.int hI1, Arg.agg (t := DW.tTour) (cs := [a2_0, a2_1, a2_2, a2_3, a2_4, a2_5, a2_6, a2_7, a2_8]) rfl hx2, Arg.int hI3, trivial⟩
end Go.Proofs.YtghckbohaghgkaaGreat
