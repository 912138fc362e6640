-- Laid by a program of the session's own (wip/tools/mp.py); not the kit's print.
import Derived.Test.YtimngliodeefjaaQFnExactCallKindx0
import Derived.Test.YtimngliodeefjaaQFnExactCallKindx1
namespace Go.Proofs.Ytimngliodeefjaa.QFnExactCallKind
open Go.RowKit Go.Proofs.YtimngliodeefjaaW.PrintWords Go.Proofs.YtimngliodeefjaaW.PrintLast Go.Proofs.YtimngliodeefjaaW.PrintMore Go.Proofs.YtimngliodeefjaaExt
attribute [local go_sem] max2_int min2_int max_two min_two max_three min_three max_four min_four   -- for this text's walks alone
set_option linter.unusedVariables false
set_option linter.unusedSimpArgs false

/-! ### spec_l01Plain2: function 28 -/
mutual
def spec_l01Plain2.j0 : Nat → Int → Int → Int → Bool → Option (Int)
  | 0, _, _, _, _ => none
  | k + 1, x0, x1, x2, x7 => if x7 = true then (if x1 = 1 then (spec_l01Plain2.j1 k x0 x1 x2 x7 (x2 == 1)) else (spec_l01Plain2.j1 k x0 x1 x2 x7 false)) else (spec_l01Plain2.j1 k x0 x1 x2 x7 false)
def spec_l01Plain2.j1 : Nat → Int → Int → Int → Bool → Bool → Option (Int)
  | 0, _, _, _, _, _ => none
  | k + 1, x0, x1, x2, x7, x14 => if x14 = true then (some 1) else (if x7 = true then ((spec_l01Numbers.f x1 x2).bind fun t101 => (if t101 = true then (spec_l01Plain2.j2 k x0 x1 x2 true) else (if x1 = 2 then (spec_l01Plain2.j2 k x0 x1 x2 (x2 == 2)) else (spec_l01Plain2.j2 k x0 x1 x2 false)))) else (spec_l01Plain2.j2 k x0 x1 x2 false))
def spec_l01Plain2.j2 : Nat → Int → Int → Int → Bool → Option (Int)
  | 0, _, _, _, _ => none
  | k + 1, x0, x1, x2, x24 => if x24 = true then (some 2) else (if x0 = 1 then (if x1 = 5 then (if x2 = 1 then (spec_l01Plain2.j3 k x0 x1 x2 true) else (if x1 = 1 then (spec_l01Plain2.j3 k x0 x1 x2 (x2 == 5)) else (spec_l01Plain2.j3 k x0 x1 x2 false))) else (if x1 = 1 then (spec_l01Plain2.j3 k x0 x1 x2 (x2 == 5)) else (spec_l01Plain2.j3 k x0 x1 x2 false))) else (spec_l01Plain2.j3 k x0 x1 x2 false))
def spec_l01Plain2.j3 : Nat → Int → Int → Int → Bool → Option (Int)
  | 0, _, _, _, _ => none
  | k + 1, x0, x1, x2, x39 => if x39 = true then (some 5) else (if x0 = 2 then (if x1 = 5 then (spec_l01Plain2.j4 k x0 x1 x2 (x2 == 1)) else (spec_l01Plain2.j4 k x0 x1 x2 false)) else (spec_l01Plain2.j4 k x0 x1 x2 false))
def spec_l01Plain2.j4 : Nat → Int → Int → Int → Bool → Option (Int)
  | 0, _, _, _, _ => none
  | k + 1, x0, x1, x2, x58 => if x58 = true then (some 5) else (if x0 = 2 then (if x1 = 5 then (spec_l01Plain2.j5 k x0 x1 x2 (x2 == 5)) else (spec_l01Plain2.j5 k x0 x1 x2 false)) else (spec_l01Plain2.j5 k x0 x1 x2 false))
def spec_l01Plain2.j5 : Nat → Int → Int → Int → Bool → Option (Int)
  | 0, _, _, _, _ => none
  | k + 1, x0, x1, x2, x69 => if x69 = true then (some 1) else (if x0 = 6 then (if x1 = 3 then (spec_l01Plain2.j6 k x0 x1 x2 (x2 == 3)) else (spec_l01Plain2.j6 k x0 x1 x2 false)) else (spec_l01Plain2.j6 k x0 x1 x2 false))
def spec_l01Plain2.j6 : Nat → Int → Int → Int → Bool → Option (Int)
  | 0, _, _, _, _ => none
  | k + 1, x0, x1, x2, x80 => if x80 = true then (some 3) else (if x0 ≥ 7 then (if x0 ≤ 13 then (if x1 = x2 then (spec_l01Plain2.j7 k x0 x1 x2 true) else ((spec_l01Numbers.f x1 x2).bind fun t102 => (spec_l01Plain2.j7 k x0 x1 x2 t102))) else (spec_l01Plain2.j7 k x0 x1 x2 false)) else (spec_l01Plain2.j7 k x0 x1 x2 false))
def spec_l01Plain2.j7 : Nat → Int → Int → Int → Bool → Option (Int)
  | 0, _, _, _, _ => none
  | k + 1, x0, x1, x2, x91 => if x91 = true then (some 4) else (if x0 = 14 then (if x1 = 4 then (if x2 = 4 then (some 4) else (some (-1))) else (some (-1))) else (if x0 = 15 then (if x1 = 4 then (if x2 = 4 then (some 4) else (some (-1))) else (some (-1))) else (some (-1))))
end
def spec_l01Plain2.f (k : Nat) (a0 : Int) (a1 : Int) (a2 : Int) : Option (Int) := if a0 ≥ 1 then (spec_l01Plain2.j0 k a0 a1 a2 (decide (a0 ≤ 5))) else (spec_l01Plain2.j0 k a0 a1 a2 false)
theorem spec_l01Plain2.mono_l : ∀ k, (∀ y0 y1 y2 y3, LeO (spec_l01Plain2.j0 k y0 y1 y2 y3) (spec_l01Plain2.j0 (k + 1) y0 y1 y2 y3)) ∧ (∀ y0 y1 y2 y3 y4, LeO (spec_l01Plain2.j1 k y0 y1 y2 y3 y4) (spec_l01Plain2.j1 (k + 1) y0 y1 y2 y3 y4)) ∧ (∀ y0 y1 y2 y3, LeO (spec_l01Plain2.j2 k y0 y1 y2 y3) (spec_l01Plain2.j2 (k + 1) y0 y1 y2 y3)) ∧ (∀ y0 y1 y2 y3, LeO (spec_l01Plain2.j3 k y0 y1 y2 y3) (spec_l01Plain2.j3 (k + 1) y0 y1 y2 y3)) ∧ (∀ y0 y1 y2 y3, LeO (spec_l01Plain2.j4 k y0 y1 y2 y3) (spec_l01Plain2.j4 (k + 1) y0 y1 y2 y3)) ∧ (∀ y0 y1 y2 y3, LeO (spec_l01Plain2.j5 k y0 y1 y2 y3) (spec_l01Plain2.j5 (k + 1) y0 y1 y2 y3)) ∧ (∀ y0 y1 y2 y3, LeO (spec_l01Plain2.j6 k y0 y1 y2 y3) (spec_l01Plain2.j6 (k + 1) y0 y1 y2 y3)) ∧ (∀ y0 y1 y2 y3, LeO (spec_l01Plain2.j7 k y0 y1 y2 y3) (spec_l01Plain2.j7 (k + 1) y0 y1 y2 y3))
  | 0 => ⟨fun _ _ _ _ r h => by simp [spec_l01Plain2.j0] at h, fun _ _ _ _ _ r h => by simp [spec_l01Plain2.j1] at h, fun _ _ _ _ r h => by simp [spec_l01Plain2.j2] at h, fun _ _ _ _ r h => by simp [spec_l01Plain2.j3] at h, fun _ _ _ _ r h => by simp [spec_l01Plain2.j4] at h, fun _ _ _ _ r h => by simp [spec_l01Plain2.j5] at h, fun _ _ _ _ r h => by simp [spec_l01Plain2.j6] at h, fun _ _ _ _ r h => by simp [spec_l01Plain2.j7] at h⟩
  | k + 1 => by
    obtain ⟨ih0, ih1, ih2, ih3, ih4, ih5, ih6, ih7⟩ := spec_l01Plain2.mono_l k
    refine ⟨?_, ?_, ?_, ?_, ?_, ?_, ?_, ?_⟩
    · intro y0 y1 y2 y3
      unfold spec_l01Plain2.j0
      repeat' first
      | (with_reducible exact ih0 _ _ _ _)
      | (with_reducible exact ih1 _ _ _ _ _)
      | (with_reducible exact ih2 _ _ _ _)
      | (with_reducible exact ih3 _ _ _ _)
      | (with_reducible exact ih4 _ _ _ _)
      | (with_reducible exact ih5 _ _ _ _)
      | (with_reducible exact ih6 _ _ _ _)
      | (with_reducible exact ih7 _ _ _ _)
      | (with_reducible exact LeO.refl _)
      | (with_reducible exact LeO.none _)
      | (with_reducible refine LeO.ite ?_ ?_)
      | (with_reducible refine LeO.bind ?_ (fun _ => ?_))
      | exact ih0 _ _ _ _
      | exact ih1 _ _ _ _ _
      | exact ih2 _ _ _ _
      | exact ih3 _ _ _ _
      | exact ih4 _ _ _ _
      | exact ih5 _ _ _ _
      | exact ih6 _ _ _ _
      | exact ih7 _ _ _ _
      | exact LeO.none _
      | refine LeO.ite ?_ ?_
      | refine LeO.bind ?_ (fun _ => ?_)
    · intro y0 y1 y2 y3 y4
      unfold spec_l01Plain2.j1
      repeat' first
      | (with_reducible exact ih0 _ _ _ _)
      | (with_reducible exact ih1 _ _ _ _ _)
      | (with_reducible exact ih2 _ _ _ _)
      | (with_reducible exact ih3 _ _ _ _)
      | (with_reducible exact ih4 _ _ _ _)
      | (with_reducible exact ih5 _ _ _ _)
      | (with_reducible exact ih6 _ _ _ _)
      | (with_reducible exact ih7 _ _ _ _)
      | (with_reducible exact LeO.refl _)
      | (with_reducible exact LeO.none _)
      | (with_reducible refine LeO.ite ?_ ?_)
      | (with_reducible refine LeO.bind ?_ (fun _ => ?_))
      | exact ih0 _ _ _ _
      | exact ih1 _ _ _ _ _
      | exact ih2 _ _ _ _
      | exact ih3 _ _ _ _
      | exact ih4 _ _ _ _
      | exact ih5 _ _ _ _
      | exact ih6 _ _ _ _
      | exact ih7 _ _ _ _
      | exact LeO.none _
      | refine LeO.ite ?_ ?_
      | refine LeO.bind ?_ (fun _ => ?_)
    · intro y0 y1 y2 y3
      unfold spec_l01Plain2.j2
      repeat' first
      | (with_reducible exact ih0 _ _ _ _)
      | (with_reducible exact ih1 _ _ _ _ _)
      | (with_reducible exact ih2 _ _ _ _)
      | (with_reducible exact ih3 _ _ _ _)
      | (with_reducible exact ih4 _ _ _ _)
      | (with_reducible exact ih5 _ _ _ _)
      | (with_reducible exact ih6 _ _ _ _)
      | (with_reducible exact ih7 _ _ _ _)
      | (with_reducible exact LeO.refl _)
      | (with_reducible exact LeO.none _)
      | (with_reducible refine LeO.ite ?_ ?_)
      | (with_reducible refine LeO.bind ?_ (fun _ => ?_))
      | exact ih0 _ _ _ _
      | exact ih1 _ _ _ _ _
      | exact ih2 _ _ _ _
      | exact ih3 _ _ _ _
      | exact ih4 _ _ _ _
      | exact ih5 _ _ _ _
      | exact ih6 _ _ _ _
      | exact ih7 _ _ _ _
      | exact LeO.none _
      | refine LeO.ite ?_ ?_
      | refine LeO.bind ?_ (fun _ => ?_)
    · intro y0 y1 y2 y3
      unfold spec_l01Plain2.j3
      repeat' first
      | (with_reducible exact ih0 _ _ _ _)
      | (with_reducible exact ih1 _ _ _ _ _)
      | (with_reducible exact ih2 _ _ _ _)
      | (with_reducible exact ih3 _ _ _ _)
      | (with_reducible exact ih4 _ _ _ _)
      | (with_reducible exact ih5 _ _ _ _)
      | (with_reducible exact ih6 _ _ _ _)
      | (with_reducible exact ih7 _ _ _ _)
      | (with_reducible exact LeO.refl _)
      | (with_reducible exact LeO.none _)
      | (with_reducible refine LeO.ite ?_ ?_)
      | (with_reducible refine LeO.bind ?_ (fun _ => ?_))
      | exact ih0 _ _ _ _
      | exact ih1 _ _ _ _ _
      | exact ih2 _ _ _ _
      | exact ih3 _ _ _ _
      | exact ih4 _ _ _ _
      | exact ih5 _ _ _ _
      | exact ih6 _ _ _ _
      | exact ih7 _ _ _ _
      | exact LeO.none _
      | refine LeO.ite ?_ ?_
      | refine LeO.bind ?_ (fun _ => ?_)
    · intro y0 y1 y2 y3
      unfold spec_l01Plain2.j4
      repeat' first
      | (with_reducible exact ih0 _ _ _ _)
      | (with_reducible exact ih1 _ _ _ _ _)
      | (with_reducible exact ih2 _ _ _ _)
      | (with_reducible exact ih3 _ _ _ _)
      | (with_reducible exact ih4 _ _ _ _)
      | (with_reducible exact ih5 _ _ _ _)
      | (with_reducible exact ih6 _ _ _ _)
      | (with_reducible exact ih7 _ _ _ _)
      | (with_reducible exact LeO.refl _)
      | (with_reducible exact LeO.none _)
      | (with_reducible refine LeO.ite ?_ ?_)
      | (with_reducible refine LeO.bind ?_ (fun _ => ?_))
      | exact ih0 _ _ _ _
      | exact ih1 _ _ _ _ _
      | exact ih2 _ _ _ _
      | exact ih3 _ _ _ _
      | exact ih4 _ _ _ _
      | exact ih5 _ _ _ _
      | exact ih6 _ _ _ _
      | exact ih7 _ _ _ _
      | exact LeO.none _
      | refine LeO.ite ?_ ?_
      | refine LeO.bind ?_ (fun _ => ?_)
    · intro y0 y1 y2 y3
      unfold spec_l01Plain2.j5
      repeat' first
      | (with_reducible exact ih0 _ _ _ _)
      | (with_reducible exact ih1 _ _ _ _ _)
      | (with_reducible exact ih2 _ _ _ _)
      | (with_reducible exact ih3 _ _ _ _)
      | (with_reducible exact ih4 _ _ _ _)
      | (with_reducible exact ih5 _ _ _ _)
      | (with_reducible exact ih6 _ _ _ _)
      | (with_reducible exact ih7 _ _ _ _)
      | (with_reducible exact LeO.refl _)
      | (with_reducible exact LeO.none _)
      | (with_reducible refine LeO.ite ?_ ?_)
      | (with_reducible refine LeO.bind ?_ (fun _ => ?_))
      | exact ih0 _ _ _ _
      | exact ih1 _ _ _ _ _
      | exact ih2 _ _ _ _
      | exact ih3 _ _ _ _
      | exact ih4 _ _ _ _
      | exact ih5 _ _ _ _
      | exact ih6 _ _ _ _
      | exact ih7 _ _ _ _
      | exact LeO.none _
      | refine LeO.ite ?_ ?_
      | refine LeO.bind ?_ (fun _ => ?_)
    · intro y0 y1 y2 y3
      unfold spec_l01Plain2.j6
      repeat' first
      | (with_reducible exact ih0 _ _ _ _)
      | (with_reducible exact ih1 _ _ _ _ _)
      | (with_reducible exact ih2 _ _ _ _)
      | (with_reducible exact ih3 _ _ _ _)
      | (with_reducible exact ih4 _ _ _ _)
      | (with_reducible exact ih5 _ _ _ _)
      | (with_reducible exact ih6 _ _ _ _)
      | (with_reducible exact ih7 _ _ _ _)
      | (with_reducible exact LeO.refl _)
      | (with_reducible exact LeO.none _)
      | (with_reducible refine LeO.ite ?_ ?_)
      | (with_reducible refine LeO.bind ?_ (fun _ => ?_))
      | exact ih0 _ _ _ _
      | exact ih1 _ _ _ _ _
      | exact ih2 _ _ _ _
      | exact ih3 _ _ _ _
      | exact ih4 _ _ _ _
      | exact ih5 _ _ _ _
      | exact ih6 _ _ _ _
      | exact ih7 _ _ _ _
      | exact LeO.none _
      | refine LeO.ite ?_ ?_
      | refine LeO.bind ?_ (fun _ => ?_)
    · intro y0 y1 y2 y3
      unfold spec_l01Plain2.j7
      repeat' first
      | (with_reducible exact ih0 _ _ _ _)
      | (with_reducible exact ih1 _ _ _ _ _)
      | (with_reducible exact ih2 _ _ _ _)
      | (with_reducible exact ih3 _ _ _ _)
      | (with_reducible exact ih4 _ _ _ _)
      | (with_reducible exact ih5 _ _ _ _)
      | (with_reducible exact ih6 _ _ _ _)
      | (with_reducible exact ih7 _ _ _ _)
      | (with_reducible exact LeO.refl _)
      | (with_reducible exact LeO.none _)
      | (with_reducible refine LeO.ite ?_ ?_)
      | (with_reducible refine LeO.bind ?_ (fun _ => ?_))
      | exact ih0 _ _ _ _
      | exact ih1 _ _ _ _ _
      | exact ih2 _ _ _ _
      | exact ih3 _ _ _ _
      | exact ih4 _ _ _ _
      | exact ih5 _ _ _ _
      | exact ih6 _ _ _ _
      | exact ih7 _ _ _ _
      | exact LeO.none _
      | refine LeO.ite ?_ ?_
      | refine LeO.bind ?_ (fun _ => ?_)
theorem spec_l01Plain2.mono : ∀ a0 a1 a2 k, LeO (spec_l01Plain2.f k a0 a1 a2) (spec_l01Plain2.f (k + 1) a0 a1 a2) := by
  intro a0 a1 a2 k
  obtain ⟨ih0, ih1, ih2, ih3, ih4, ih5, ih6, ih7⟩ := spec_l01Plain2.mono_l k
  unfold spec_l01Plain2.f
  repeat' first
      | (with_reducible exact ih0 _ _ _ _)
      | (with_reducible exact ih1 _ _ _ _ _)
      | (with_reducible exact ih2 _ _ _ _)
      | (with_reducible exact ih3 _ _ _ _)
      | (with_reducible exact ih4 _ _ _ _)
      | (with_reducible exact ih5 _ _ _ _)
      | (with_reducible exact ih6 _ _ _ _)
      | (with_reducible exact ih7 _ _ _ _)
      | (with_reducible exact LeO.refl _)
      | (with_reducible exact LeO.none _)
      | (with_reducible refine LeO.ite ?_ ?_)
      | (with_reducible refine LeO.bind ?_ (fun _ => ?_))
      | exact ih0 _ _ _ _
      | exact ih1 _ _ _ _ _
      | exact ih2 _ _ _ _
      | exact ih3 _ _ _ _
      | exact ih4 _ _ _ _
      | exact ih5 _ _ _ _
      | exact ih6 _ _ _ _
      | exact ih7 _ _ _ _
      | exact LeO.none _
      | refine LeO.ite ?_ ?_
      | refine LeO.bind ?_ (fun _ => ?_)
set_option maxHeartbeats 8000000 in
set_option maxRecDepth 100000 in
theorem spec_l01Plain2.calls (k : Nat) (a0 : Int) (a1 : Int) (a2 : Int) (r : Int) (w : World) (h : spec_l01Plain2.f k a0 a1 a2 = some r) :
    Calls Try.prog 28 #[.int .i64 a0, .int .i64 a1, .int .i64 a2] w fun e w' => e = .returned (.int .i64 r) ∧ Drawn0 w w' := by
  have H : (if a0 ≥ 1 then (spec_l01Plain2.j0 k a0 a1 a2 (decide (a0 ≤ 5))) else (spec_l01Plain2.j0 k a0 a1 a2 false)) = some r := h
  clear h
  have HC4 := Aside0.mk H
  clear H
  go_enter Try.func28, Try.ntmps28
  go_upto_region 1 with (fail)
  go_cut [7] (fun v7 wc => ∃ (kq : Nat) (x7_3 : Bool), v7 = .bool x7_3 ∧ Aside0 (spec_l01Plain2.j0 kq a0 a1 a2 x7_3 = some r) ∧ Aside0 (kq ≤ k) ∧ Drawn0 w wc)
  case first =>
    have H := HC4.out
    clear HC4
    by_cases c5 : a0 ≥ 1
    · rw [if_pos c5] at H
      have c5b0 : decide (1 ≤ a0) = true := decide_eq_true c5
      clear c5
      (first | rw [c5b0] | (simp only [i64_w, i32_w]; rw [c5b0]) | skip)
      have H' := Aside0.mk H
      clear H
      go_wp2
      go_meet
      case rel => exact ⟨_, (decide (a0 ≤ 5)), (by first | rfl | (simp; done) | (simp [*]; done)), H', ⟨by first | omega | exact Nat.le_refl _⟩, by repeat (first | exact Drawn0.refl _ | apply Drawn0.step)⟩
    · rw [if_neg c5] at H
      have c5b0 : decide (1 ≤ a0) = false := decide_eq_false c5
      clear c5
      (first | rw [c5b0] | (simp only [i64_w, i32_w]; rw [c5b0]) | skip)
      have H' := Aside0.mk H
      clear H
      go_wp2
      go_meet
      case rel => exact ⟨_, (false), (by first | rfl | (simp; done) | (simp [*]; done)), H', ⟨by first | omega | exact Nat.le_refl _⟩, by repeat (first | exact Drawn0.refl _ | apply Drawn0.step)⟩
  case rest =>
    clear HC4
    try clear c2
    try clear p2
    try clear c5
    try clear c5b0
    obtain ⟨kq, x7_3, rfl, HA, HJ3, ⟨mc3, rfl⟩⟩ := hcut
    cases kq with
    | zero => exact absurd HA.out (by simp [spec_l01Plain2.j0])
    | succ kj3 =>
      have H := HA.out
      clear HA
      simp only [spec_l01Plain2.j0] at H
      have HC6 := Aside0.mk H
      clear H
      go_upto_region 2 with (fail)
      go_cut [14] (fun v14 wc => ∃ (kq : Nat) (x14_5 : Bool), v14 = .bool x14_5 ∧ Aside0 (spec_l01Plain2.j1 kq a0 a1 a2 x7_3 x14_5 = some r) ∧ Aside0 (kq ≤ kj3) ∧ Drawn0 w wc)
      case first =>
        have H := HC6.out
        clear HC6
        by_cases c7 : x7_3 = true
        · subst c7
          have H1 : (if a1 = 1 then (spec_l01Plain2.j1 kj3 a0 a1 a2 true (a2 == 1)) else (spec_l01Plain2.j1 kj3 a0 a1 a2 true false)) = some r := by rw [if_pos rfl] at H; exact H
          clear H
          have H := H1
          clear H1
          by_cases c8 : a1 = 1
          · rw [if_pos c8] at H
            have c8b0 : (a1 == 1) = true := beq_iff_eq.mpr c8
            have c8b1 : (a1 != 1) = false := bne_eq_false_iff_eq.mpr c8
            clear c8
            (first | rw [c8b0] | (simp only [i64_w, i32_w]; rw [c8b0]) | skip)
            have H' := Aside0.mk H
            clear H
            go_wp2
            go_meet
            case rel => exact ⟨_, ((a2 == 1)), (by first | rfl | (simp; done) | (simp [*]; done)), H', ⟨by have := HJ3.out; first | omega | exact Nat.le_refl _⟩, by repeat (first | exact Drawn0.refl _ | apply Drawn0.step)⟩
          · rw [if_neg c8] at H
            have c8b0 : (a1 == 1) = false := beq_eq_false_iff_ne.mpr c8
            have c8b1 : (a1 != 1) = true := bne_iff_ne.mpr c8
            (first | rw [c8b0] | (simp only [i64_w, i32_w]; rw [c8b0]) | skip)
            have H' := Aside0.mk H
            clear H
            go_wp2
            go_meet
            case rel => exact ⟨_, (false), (by first | rfl | (simp; done) | (simp [*]; done)), H', ⟨by have := HJ3.out; first | omega | exact Nat.le_refl _⟩, by repeat (first | exact Drawn0.refl _ | apply Drawn0.step)⟩
        · replace c7 := Bool.eq_false_iff.mpr c7
          subst c7
          have H1 : (spec_l01Plain2.j1 kj3 a0 a1 a2 false false) = some r := by rw [if_neg (show ¬ (false = true) by decide)] at H; exact H
          clear H
          have H := H1
          clear H1
          have H' := Aside0.mk H
          clear H
          go_wp2
          go_meet
          case rel => exact ⟨_, (false), (by first | rfl | (simp; done) | (simp [*]; done)), H', ⟨by have := HJ3.out; first | omega | exact Nat.le_refl _⟩, by repeat (first | exact Drawn0.refl _ | apply Drawn0.step)⟩
      case rest =>
        clear HC6
        try clear c2
        try clear p2
        try clear c3
        try clear c5
        try clear c5b0
        try clear c7
        try clear c8
        try clear c8b0
        try clear c8b1
        try clear p2
        obtain ⟨kq, x14_5, rfl, HA, HJ5, ⟨mc5, rfl⟩⟩ := hcut
        cases kq with
        | zero => exact absurd HA.out (by simp [spec_l01Plain2.j1])
        | succ kj5 =>
          have H := HA.out
          clear HA
          simp only [spec_l01Plain2.j1] at H
          by_cases c9 : x14_5 = true
          · subst c9
            have H1 : (some 1) = some r := by rw [if_pos rfl] at H; exact H
            clear H
            have H := H1
            clear H1
            obtain rfl := Option.some.inj H
            go_wp2
            go_ret
            exact ⟨by first | rfl | (simp; done) | (simp [*]; done), by repeat (first | exact Drawn0.refl _ | apply Drawn0.step)⟩
          · replace c9 := Bool.eq_false_iff.mpr c9
            subst c9
            have H1 : (if x7_3 = true then ((spec_l01Numbers.f a1 a2).bind fun t101 => (if t101 = true then (spec_l01Plain2.j2 kj5 a0 a1 a2 true) else (if a1 = 2 then (spec_l01Plain2.j2 kj5 a0 a1 a2 (a2 == 2)) else (spec_l01Plain2.j2 kj5 a0 a1 a2 false)))) else (spec_l01Plain2.j2 kj5 a0 a1 a2 false)) = some r := by rw [if_neg (show ¬ (false = true) by decide)] at H; exact H
            clear H
            have H := H1
            clear H1
            have HC10 := Aside0.mk H
            clear H
            go_upto_region 4 with (fail)
            go_cut [24] (fun v24 wc => ∃ (kq : Nat) (x24_9 : Bool), v24 = .bool x24_9 ∧ Aside0 (spec_l01Plain2.j2 kq a0 a1 a2 x24_9 = some r) ∧ Aside0 (kq ≤ kj5) ∧ Drawn0 w wc)
            case first =>
              have H := HC10.out
              clear HC10
              by_cases c11 : x7_3 = true
              · subst c11
                have H1 : ((spec_l01Numbers.f a1 a2).bind fun t101 => (if t101 = true then (spec_l01Plain2.j2 kj5 a0 a1 a2 true) else (if a1 = 2 then (spec_l01Plain2.j2 kj5 a0 a1 a2 (a2 == 2)) else (spec_l01Plain2.j2 kj5 a0 a1 a2 false)))) = some r := by rw [if_pos rfl] at H; exact H
                clear H
                have H := H1
                clear H1
                replace H := Option.bind_eq_some_iff.mp H
                obtain ⟨t101, A120, H⟩ := H
                replace H : (if t101 = true then (spec_l01Plain2.j2 kj5 a0 a1 a2 true) else (if a1 = 2 then (spec_l01Plain2.j2 kj5 a0 a1 a2 (a2 == 2)) else (spec_l01Plain2.j2 kj5 a0 a1 a2 false))) = some r := H
                have A12 := Aside0.mk A120
                clear A120
                by_cases c13 : t101 = true
                · subst c13
                  have H1 : (spec_l01Plain2.j2 kj5 a0 a1 a2 true) = some r := by rw [if_pos rfl] at H; exact H
                  clear H
                  have H := H1
                  clear H1
                  have H' := Aside0.mk H
                  clear H
                  go_wp2_with (first | (go_at_call 38; (with_reducible refine (spec_l01Numbers.calls a1 a2 true _ A12.out).mono ?_); rintro e w' ⟨rfl, ⟨nd, rfl⟩⟩))
                  go_meet
                  case rel => exact ⟨_, (true), (by first | rfl | (simp; done) | (simp [*]; done)), H', ⟨by have := HJ3.out; have := HJ5.out; first | omega | exact Nat.le_refl _⟩, by repeat (first | exact Drawn0.refl _ | apply Drawn0.step)⟩
                · replace c13 := Bool.eq_false_iff.mpr c13
                  subst c13
                  have H1 : (if a1 = 2 then (spec_l01Plain2.j2 kj5 a0 a1 a2 (a2 == 2)) else (spec_l01Plain2.j2 kj5 a0 a1 a2 false)) = some r := by rw [if_neg (show ¬ (false = true) by decide)] at H; exact H
                  clear H
                  have H := H1
                  clear H1
                  by_cases c14 : a1 = 2
                  · rw [if_pos c14] at H
                    have c14b0 : (a1 == 2) = true := beq_iff_eq.mpr c14
                    have c14b1 : (a1 != 2) = false := bne_eq_false_iff_eq.mpr c14
                    clear c14
                    (first | rw [c14b0] | (simp only [i64_w, i32_w]; rw [c14b0]) | skip)
                    have H' := Aside0.mk H
                    clear H
                    go_wp2_with (first | (go_at_call 38; (with_reducible refine (spec_l01Numbers.calls a1 a2 false _ A12.out).mono ?_); rintro e w' ⟨rfl, ⟨nd, rfl⟩⟩))
                    go_meet
                    case rel => exact ⟨_, ((a2 == 2)), (by first | rfl | (simp; done) | (simp [*]; done)), H', ⟨by have := HJ3.out; have := HJ5.out; first | omega | exact Nat.le_refl _⟩, by repeat (first | exact Drawn0.refl _ | apply Drawn0.step)⟩
                  · rw [if_neg c14] at H
                    have c14b0 : (a1 == 2) = false := beq_eq_false_iff_ne.mpr c14
                    have c14b1 : (a1 != 2) = true := bne_iff_ne.mpr c14
                    (first | rw [c14b0] | (simp only [i64_w, i32_w]; rw [c14b0]) | skip)
                    have H' := Aside0.mk H
                    clear H
                    go_wp2_with (first | (go_at_call 38; (with_reducible refine (spec_l01Numbers.calls a1 a2 false _ A12.out).mono ?_); rintro e w' ⟨rfl, ⟨nd, rfl⟩⟩))
                    go_meet
                    case rel => exact ⟨_, (false), (by first | rfl | (simp; done) | (simp [*]; done)), H', ⟨by have := HJ3.out; have := HJ5.out; first | omega | exact Nat.le_refl _⟩, by repeat (first | exact Drawn0.refl _ | apply Drawn0.step)⟩
              · replace c11 := Bool.eq_false_iff.mpr c11
                subst c11
                have H1 : (spec_l01Plain2.j2 kj5 a0 a1 a2 false) = some r := by rw [if_neg (show ¬ (false = true) by decide)] at H; exact H
                clear H
                have H := H1
                clear H1
                have H' := Aside0.mk H
                clear H
                go_wp2
                go_meet
                case rel => exact ⟨_, (false), (by first | rfl | (simp; done) | (simp [*]; done)), H', ⟨by have := HJ3.out; have := HJ5.out; first | omega | exact Nat.le_refl _⟩, by repeat (first | exact Drawn0.refl _ | apply Drawn0.step)⟩
            case rest =>
              clear HC10
              try clear c1
              try clear c2
              try clear p2
              try clear c3
              try clear c5
              try clear c5b0
              try clear c7
              try clear c8
              try clear c8b0
              try clear c8b1
              try clear c9
              try clear c11
              try clear c13
              try clear c14
              try clear c14b0
              try clear c14b1
              try clear p2
              obtain ⟨kq, x24_9, rfl, HA, HJ9, ⟨mc9, rfl⟩⟩ := hcut
              cases kq with
              | zero => exact absurd HA.out (by simp [spec_l01Plain2.j2])
              | succ kj9 =>
                have H := HA.out
                clear HA
                simp only [spec_l01Plain2.j2] at H
                by_cases c15 : x24_9 = true
                · subst c15
                  have H1 : (some 2) = some r := by rw [if_pos rfl] at H; exact H
                  clear H
                  have H := H1
                  clear H1
                  obtain rfl := Option.some.inj H
                  go_wp2
                  go_ret
                  exact ⟨by first | rfl | (simp; done) | (simp [*]; done), by repeat (first | exact Drawn0.refl _ | apply Drawn0.step)⟩
                · replace c15 := Bool.eq_false_iff.mpr c15
                  subst c15
                  have H1 : (if a0 = 1 then (if a1 = 5 then (if a2 = 1 then (spec_l01Plain2.j3 kj9 a0 a1 a2 true) else (if a1 = 1 then (spec_l01Plain2.j3 kj9 a0 a1 a2 (a2 == 5)) else (spec_l01Plain2.j3 kj9 a0 a1 a2 false))) else (if a1 = 1 then (spec_l01Plain2.j3 kj9 a0 a1 a2 (a2 == 5)) else (spec_l01Plain2.j3 kj9 a0 a1 a2 false))) else (spec_l01Plain2.j3 kj9 a0 a1 a2 false)) = some r := by rw [if_neg (show ¬ (false = true) by decide)] at H; exact H
                  clear H
                  have H := H1
                  clear H1
                  have HC16 := Aside0.mk H
                  clear H
                  go_upto_region 6 with (fail)
                  go_cut [39] (fun v39 wc => ∃ (kq : Nat) (x39_15 : Bool), v39 = .bool x39_15 ∧ Aside0 (spec_l01Plain2.j3 kq a0 a1 a2 x39_15 = some r) ∧ Aside0 (kq ≤ kj9) ∧ Drawn0 w wc)
                  case first =>
                    have H := HC16.out
                    clear HC16
                    by_cases c17 : a0 = 1
                    · rw [if_pos c17] at H
                      have c17b0 : (a0 == 1) = true := beq_iff_eq.mpr c17
                      have c17b1 : (a0 != 1) = false := bne_eq_false_iff_eq.mpr c17
                      clear c17
                      (first | rw [c17b0] | (simp only [i64_w, i32_w]; rw [c17b0]) | skip)
                      by_cases c18 : a1 = 5
                      · rw [if_pos c18] at H
                        have c18b0 : (a1 == 5) = true := beq_iff_eq.mpr c18
                        have c18b1 : (a1 != 5) = false := bne_eq_false_iff_eq.mpr c18
                        clear c18
                        by_cases c19 : a2 = 1
                        · rw [if_pos c19] at H
                          have c19b0 : (a2 == 1) = true := beq_iff_eq.mpr c19
                          have c19b1 : (a2 != 1) = false := bne_eq_false_iff_eq.mpr c19
                          clear c19
                          have H' := Aside0.mk H
                          clear H
                          go_wp2
                          go_meet
                          case rel => exact ⟨_, (true), (by first | rfl | (simp; done) | (simp [*]; done)), H', ⟨by have := HJ3.out; have := HJ5.out; have := HJ9.out; first | omega | exact Nat.le_refl _⟩, by repeat (first | exact Drawn0.refl _ | apply Drawn0.step)⟩
                        · rw [if_neg c19] at H
                          have c19b0 : (a2 == 1) = false := beq_eq_false_iff_ne.mpr c19
                          have c19b1 : (a2 != 1) = true := bne_iff_ne.mpr c19
                          by_cases c20 : a1 = 1
                          · rw [if_pos c20] at H
                            have c20b0 : (a1 == 1) = true := beq_iff_eq.mpr c20
                            have c20b1 : (a1 != 1) = false := bne_eq_false_iff_eq.mpr c20
                            clear c20
                            have H' := Aside0.mk H
                            clear H
                            go_wp2
                            go_meet
                            case rel => exact ⟨_, ((a2 == 5)), (by first | rfl | (simp; done) | (simp [*]; done)), H', ⟨by have := HJ3.out; have := HJ5.out; have := HJ9.out; first | omega | exact Nat.le_refl _⟩, by repeat (first | exact Drawn0.refl _ | apply Drawn0.step)⟩
                          · rw [if_neg c20] at H
                            have c20b0 : (a1 == 1) = false := beq_eq_false_iff_ne.mpr c20
                            have c20b1 : (a1 != 1) = true := bne_iff_ne.mpr c20
                            have H' := Aside0.mk H
                            clear H
                            go_wp2
                            go_meet
                            case rel => exact ⟨_, (false), (by first | rfl | (simp; done) | (simp [*]; done)), H', ⟨by have := HJ3.out; have := HJ5.out; have := HJ9.out; first | omega | exact Nat.le_refl _⟩, by repeat (first | exact Drawn0.refl _ | apply Drawn0.step)⟩
                      · rw [if_neg c18] at H
                        have c18b0 : (a1 == 5) = false := beq_eq_false_iff_ne.mpr c18
                        have c18b1 : (a1 != 5) = true := bne_iff_ne.mpr c18
                        by_cases c21 : a1 = 1
                        · rw [if_pos c21] at H
                          have c21b0 : (a1 == 1) = true := beq_iff_eq.mpr c21
                          have c21b1 : (a1 != 1) = false := bne_eq_false_iff_eq.mpr c21
                          clear c21
                          have H' := Aside0.mk H
                          clear H
                          go_wp2
                          go_meet
                          case rel => exact ⟨_, ((a2 == 5)), (by first | rfl | (simp; done) | (simp [*]; done)), H', ⟨by have := HJ3.out; have := HJ5.out; have := HJ9.out; first | omega | exact Nat.le_refl _⟩, by repeat (first | exact Drawn0.refl _ | apply Drawn0.step)⟩
                        · rw [if_neg c21] at H
                          have c21b0 : (a1 == 1) = false := beq_eq_false_iff_ne.mpr c21
                          have c21b1 : (a1 != 1) = true := bne_iff_ne.mpr c21
                          have H' := Aside0.mk H
                          clear H
                          go_wp2
                          go_meet
                          case rel => exact ⟨_, (false), (by first | rfl | (simp; done) | (simp [*]; done)), H', ⟨by have := HJ3.out; have := HJ5.out; have := HJ9.out; first | omega | exact Nat.le_refl _⟩, by repeat (first | exact Drawn0.refl _ | apply Drawn0.step)⟩
                    · rw [if_neg c17] at H
                      have c17b0 : (a0 == 1) = false := beq_eq_false_iff_ne.mpr c17
                      have c17b1 : (a0 != 1) = true := bne_iff_ne.mpr c17
                      (first | rw [c17b0] | (simp only [i64_w, i32_w]; rw [c17b0]) | skip)
                      have H' := Aside0.mk H
                      clear H
                      go_wp2
                      go_meet
                      case rel => exact ⟨_, (false), (by first | rfl | (simp; done) | (simp [*]; done)), H', ⟨by have := HJ3.out; have := HJ5.out; have := HJ9.out; first | omega | exact Nat.le_refl _⟩, by repeat (first | exact Drawn0.refl _ | apply Drawn0.step)⟩
                  case rest =>
                    clear HC16
                    try clear c1
                    try clear c2
                    try clear p2
                    try clear c3
                    try clear c5
                    try clear c5b0
                    try clear c7
                    try clear c8
                    try clear c8b0
                    try clear c8b1
                    try clear c9
                    try clear c11
                    try clear c13
                    try clear c14
                    try clear c14b0
                    try clear c14b1
                    try clear c15
                    try clear c17
                    try clear c17b0
                    try clear c17b1
                    try clear c18
                    try clear c18b0
                    try clear c18b1
                    try clear c19
                    try clear c19b0
                    try clear c19b1
                    try clear c20
                    try clear c20b0
                    try clear c20b1
                    try clear c21
                    try clear c21b0
                    try clear c21b1
                    try clear p2
                    obtain ⟨kq, x39_15, rfl, HA, HJ15, ⟨mc15, rfl⟩⟩ := hcut
                    cases kq with
                    | zero => exact absurd HA.out (by simp [spec_l01Plain2.j3])
                    | succ kj15 =>
                      have H := HA.out
                      clear HA
                      simp only [spec_l01Plain2.j3] at H
                      by_cases c22 : x39_15 = true
                      · subst c22
                        have H1 : (some 5) = some r := by rw [if_pos rfl] at H; exact H
                        clear H
                        have H := H1
                        clear H1
                        obtain rfl := Option.some.inj H
                        go_wp2
                        go_ret
                        exact ⟨by first | rfl | (simp; done) | (simp [*]; done), by repeat (first | exact Drawn0.refl _ | apply Drawn0.step)⟩
                      · replace c22 := Bool.eq_false_iff.mpr c22
                        subst c22
                        have H1 : (if a0 = 2 then (if a1 = 5 then (spec_l01Plain2.j4 kj15 a0 a1 a2 (a2 == 1)) else (spec_l01Plain2.j4 kj15 a0 a1 a2 false)) else (spec_l01Plain2.j4 kj15 a0 a1 a2 false)) = some r := by rw [if_neg (show ¬ (false = true) by decide)] at H; exact H
                        clear H
                        have H := H1
                        clear H1
                        have HC23 := Aside0.mk H
                        clear H
                        go_upto_region 8 with (fail)
                        go_cut [58] (fun v58 wc => ∃ (kq : Nat) (x58_22 : Bool), v58 = .bool x58_22 ∧ Aside0 (spec_l01Plain2.j4 kq a0 a1 a2 x58_22 = some r) ∧ Aside0 (kq ≤ kj15) ∧ Drawn0 w wc)
                        case first =>
                          have H := HC23.out
                          clear HC23
                          by_cases c24 : a0 = 2
                          · rw [if_pos c24] at H
                            have c24b0 : (a0 == 2) = true := beq_iff_eq.mpr c24
                            have c24b1 : (a0 != 2) = false := bne_eq_false_iff_eq.mpr c24
                            clear c24
                            (first | rw [c24b0] | (simp only [i64_w, i32_w]; rw [c24b0]) | skip)
                            by_cases c25 : a1 = 5
                            · rw [if_pos c25] at H
                              have c25b0 : (a1 == 5) = true := beq_iff_eq.mpr c25
                              have c25b1 : (a1 != 5) = false := bne_eq_false_iff_eq.mpr c25
                              clear c25
                              have H' := Aside0.mk H
                              clear H
                              go_wp2
                              go_meet
                              case rel => exact ⟨_, ((a2 == 1)), (by first | rfl | (simp; done) | (simp [*]; done)), H', ⟨by have := HJ3.out; have := HJ5.out; have := HJ9.out; have := HJ15.out; first | omega | exact Nat.le_refl _⟩, by repeat (first | exact Drawn0.refl _ | apply Drawn0.step)⟩
                            · rw [if_neg c25] at H
                              have c25b0 : (a1 == 5) = false := beq_eq_false_iff_ne.mpr c25
                              have c25b1 : (a1 != 5) = true := bne_iff_ne.mpr c25
                              have H' := Aside0.mk H
                              clear H
                              go_wp2
                              go_meet
                              case rel => exact ⟨_, (false), (by first | rfl | (simp; done) | (simp [*]; done)), H', ⟨by have := HJ3.out; have := HJ5.out; have := HJ9.out; have := HJ15.out; first | omega | exact Nat.le_refl _⟩, by repeat (first | exact Drawn0.refl _ | apply Drawn0.step)⟩
                          · rw [if_neg c24] at H
                            have c24b0 : (a0 == 2) = false := beq_eq_false_iff_ne.mpr c24
                            have c24b1 : (a0 != 2) = true := bne_iff_ne.mpr c24
                            (first | rw [c24b0] | (simp only [i64_w, i32_w]; rw [c24b0]) | skip)
                            have H' := Aside0.mk H
                            clear H
                            go_wp2
                            go_meet
                            case rel => exact ⟨_, (false), (by first | rfl | (simp; done) | (simp [*]; done)), H', ⟨by have := HJ3.out; have := HJ5.out; have := HJ9.out; have := HJ15.out; first | omega | exact Nat.le_refl _⟩, by repeat (first | exact Drawn0.refl _ | apply Drawn0.step)⟩
                        case rest =>
                          clear HC23
                          try clear c1
                          try clear c2
                          try clear p2
                          try clear c3
                          try clear c5
                          try clear c5b0
                          try clear c7
                          try clear c8
                          try clear c8b0
                          try clear c8b1
                          try clear c9
                          try clear c11
                          try clear c13
                          try clear c14
                          try clear c14b0
                          try clear c14b1
                          try clear c15
                          try clear c17
                          try clear c17b0
                          try clear c17b1
                          try clear c18
                          try clear c18b0
                          try clear c18b1
                          try clear c19
                          try clear c19b0
                          try clear c19b1
                          try clear c20
                          try clear c20b0
                          try clear c20b1
                          try clear c21
                          try clear c21b0
                          try clear c21b1
                          try clear c22
                          try clear c24
                          try clear c24b0
                          try clear c24b1
                          try clear c25
                          try clear c25b0
                          try clear c25b1
                          try clear p2
                          obtain ⟨kq, x58_22, rfl, HA, HJ22, ⟨mc22, rfl⟩⟩ := hcut
                          cases kq with
                          | zero => exact absurd HA.out (by simp [spec_l01Plain2.j4])
                          | succ kj22 =>
                            have H := HA.out
                            clear HA
                            simp only [spec_l01Plain2.j4] at H
                            by_cases c26 : x58_22 = true
                            · subst c26
                              have H1 : (some 5) = some r := by rw [if_pos rfl] at H; exact H
                              clear H
                              have H := H1
                              clear H1
                              obtain rfl := Option.some.inj H
                              go_wp2
                              go_ret
                              exact ⟨by first | rfl | (simp; done) | (simp [*]; done), by repeat (first | exact Drawn0.refl _ | apply Drawn0.step)⟩
                            · replace c26 := Bool.eq_false_iff.mpr c26
                              subst c26
                              have H1 : (if a0 = 2 then (if a1 = 5 then (spec_l01Plain2.j5 kj22 a0 a1 a2 (a2 == 5)) else (spec_l01Plain2.j5 kj22 a0 a1 a2 false)) else (spec_l01Plain2.j5 kj22 a0 a1 a2 false)) = some r := by rw [if_neg (show ¬ (false = true) by decide)] at H; exact H
                              clear H
                              have H := H1
                              clear H1
                              have HC27 := Aside0.mk H
                              clear H
                              go_upto_region 10 with (fail)
                              go_cut [69] (fun v69 wc => ∃ (kq : Nat) (x69_26 : Bool), v69 = .bool x69_26 ∧ Aside0 (spec_l01Plain2.j5 kq a0 a1 a2 x69_26 = some r) ∧ Aside0 (kq ≤ kj22) ∧ Drawn0 w wc)
                              case first =>
                                have H := HC27.out
                                clear HC27
                                by_cases c28 : a0 = 2
                                · rw [if_pos c28] at H
                                  have c28b0 : (a0 == 2) = true := beq_iff_eq.mpr c28
                                  have c28b1 : (a0 != 2) = false := bne_eq_false_iff_eq.mpr c28
                                  clear c28
                                  (first | rw [c28b0] | (simp only [i64_w, i32_w]; rw [c28b0]) | skip)
                                  by_cases c29 : a1 = 5
                                  · rw [if_pos c29] at H
                                    have c29b0 : (a1 == 5) = true := beq_iff_eq.mpr c29
                                    have c29b1 : (a1 != 5) = false := bne_eq_false_iff_eq.mpr c29
                                    clear c29
                                    have H' := Aside0.mk H
                                    clear H
                                    go_wp2
                                    go_meet
                                    case rel => exact ⟨_, ((a2 == 5)), (by first | rfl | (simp; done) | (simp [*]; done)), H', ⟨by have := HJ3.out; have := HJ5.out; have := HJ9.out; have := HJ15.out; have := HJ22.out; first | omega | exact Nat.le_refl _⟩, by repeat (first | exact Drawn0.refl _ | apply Drawn0.step)⟩
                                  · rw [if_neg c29] at H
                                    have c29b0 : (a1 == 5) = false := beq_eq_false_iff_ne.mpr c29
                                    have c29b1 : (a1 != 5) = true := bne_iff_ne.mpr c29
                                    have H' := Aside0.mk H
                                    clear H
                                    go_wp2
                                    go_meet
                                    case rel => exact ⟨_, (false), (by first | rfl | (simp; done) | (simp [*]; done)), H', ⟨by have := HJ3.out; have := HJ5.out; have := HJ9.out; have := HJ15.out; have := HJ22.out; first | omega | exact Nat.le_refl _⟩, by repeat (first | exact Drawn0.refl _ | apply Drawn0.step)⟩
                                · rw [if_neg c28] at H
                                  have c28b0 : (a0 == 2) = false := beq_eq_false_iff_ne.mpr c28
                                  have c28b1 : (a0 != 2) = true := bne_iff_ne.mpr c28
                                  (first | rw [c28b0] | (simp only [i64_w, i32_w]; rw [c28b0]) | skip)
                                  have H' := Aside0.mk H
                                  clear H
                                  go_wp2
                                  go_meet
                                  case rel => exact ⟨_, (false), (by first | rfl | (simp; done) | (simp [*]; done)), H', ⟨by have := HJ3.out; have := HJ5.out; have := HJ9.out; have := HJ15.out; have := HJ22.out; first | omega | exact Nat.le_refl _⟩, by repeat (first | exact Drawn0.refl _ | apply Drawn0.step)⟩
                              case rest =>
                                clear HC27
                                try clear c1
                                try clear c2
                                try clear p2
                                try clear c3
                                try clear c5
                                try clear c5b0
                                try clear c7
                                try clear c8
                                try clear c8b0
                                try clear c8b1
                                try clear c9
                                try clear c11
                                try clear c13
                                try clear c14
                                try clear c14b0
                                try clear c14b1
                                try clear c15
                                try clear c17
                                try clear c17b0
                                try clear c17b1
                                try clear c18
                                try clear c18b0
                                try clear c18b1
                                try clear c19
                                try clear c19b0
                                try clear c19b1
                                try clear c20
                                try clear c20b0
                                try clear c20b1
                                try clear c21
                                try clear c21b0
                                try clear c21b1
                                try clear c22
                                try clear c24
                                try clear c24b0
                                try clear c24b1
                                try clear c25
                                try clear c25b0
                                try clear c25b1
                                try clear c26
                                try clear c28
                                try clear c28b0
                                try clear c28b1
                                try clear c29
                                try clear c29b0
                                try clear c29b1
                                try clear p2
                                obtain ⟨kq, x69_26, rfl, HA, HJ26, ⟨mc26, rfl⟩⟩ := hcut
                                cases kq with
                                | zero => exact absurd HA.out (by simp [spec_l01Plain2.j5])
                                | succ kj26 =>
                                  have H := HA.out
                                  clear HA
                                  simp only [spec_l01Plain2.j5] at H
                                  by_cases c30 : x69_26 = true
                                  · subst c30
                                    have H1 : (some 1) = some r := by rw [if_pos rfl] at H; exact H
                                    clear H
                                    have H := H1
                                    clear H1
                                    obtain rfl := Option.some.inj H
                                    go_wp2
                                    go_ret
                                    exact ⟨by first | rfl | (simp; done) | (simp [*]; done), by repeat (first | exact Drawn0.refl _ | apply Drawn0.step)⟩
                                  · replace c30 := Bool.eq_false_iff.mpr c30
                                    subst c30
                                    have H1 : (if a0 = 6 then (if a1 = 3 then (spec_l01Plain2.j6 kj26 a0 a1 a2 (a2 == 3)) else (spec_l01Plain2.j6 kj26 a0 a1 a2 false)) else (spec_l01Plain2.j6 kj26 a0 a1 a2 false)) = some r := by rw [if_neg (show ¬ (false = true) by decide)] at H; exact H
                                    clear H
                                    have H := H1
                                    clear H1
                                    have HC31 := Aside0.mk H
                                    clear H
                                    go_upto_region 12 with (fail)
                                    go_cut [80] (fun v80 wc => ∃ (kq : Nat) (x80_30 : Bool), v80 = .bool x80_30 ∧ Aside0 (spec_l01Plain2.j6 kq a0 a1 a2 x80_30 = some r) ∧ Aside0 (kq ≤ kj26) ∧ Drawn0 w wc)
                                    case first =>
                                      have H := HC31.out
                                      clear HC31
                                      by_cases c32 : a0 = 6
                                      · rw [if_pos c32] at H
                                        have c32b0 : (a0 == 6) = true := beq_iff_eq.mpr c32
                                        have c32b1 : (a0 != 6) = false := bne_eq_false_iff_eq.mpr c32
                                        clear c32
                                        (first | rw [c32b0] | (simp only [i64_w, i32_w]; rw [c32b0]) | skip)
                                        by_cases c33 : a1 = 3
                                        · rw [if_pos c33] at H
                                          have c33b0 : (a1 == 3) = true := beq_iff_eq.mpr c33
                                          have c33b1 : (a1 != 3) = false := bne_eq_false_iff_eq.mpr c33
                                          clear c33
                                          have H' := Aside0.mk H
                                          clear H
                                          go_wp2
                                          go_meet
                                          case rel => exact ⟨_, ((a2 == 3)), (by first | rfl | (simp; done) | (simp [*]; done)), H', ⟨by have := HJ3.out; have := HJ5.out; have := HJ9.out; have := HJ15.out; have := HJ22.out; have := HJ26.out; first | omega | exact Nat.le_refl _⟩, by repeat (first | exact Drawn0.refl _ | apply Drawn0.step)⟩
                                        · rw [if_neg c33] at H
                                          have c33b0 : (a1 == 3) = false := beq_eq_false_iff_ne.mpr c33
                                          have c33b1 : (a1 != 3) = true := bne_iff_ne.mpr c33
                                          have H' := Aside0.mk H
                                          clear H
                                          go_wp2
                                          go_meet
                                          case rel => exact ⟨_, (false), (by first | rfl | (simp; done) | (simp [*]; done)), H', ⟨by have := HJ3.out; have := HJ5.out; have := HJ9.out; have := HJ15.out; have := HJ22.out; have := HJ26.out; first | omega | exact Nat.le_refl _⟩, by repeat (first | exact Drawn0.refl _ | apply Drawn0.step)⟩
                                      · rw [if_neg c32] at H
                                        have c32b0 : (a0 == 6) = false := beq_eq_false_iff_ne.mpr c32
                                        have c32b1 : (a0 != 6) = true := bne_iff_ne.mpr c32
                                        (first | rw [c32b0] | (simp only [i64_w, i32_w]; rw [c32b0]) | skip)
                                        have H' := Aside0.mk H
                                        clear H
                                        go_wp2
                                        go_meet
                                        case rel => exact ⟨_, (false), (by first | rfl | (simp; done) | (simp [*]; done)), H', ⟨by have := HJ3.out; have := HJ5.out; have := HJ9.out; have := HJ15.out; have := HJ22.out; have := HJ26.out; first | omega | exact Nat.le_refl _⟩, by repeat (first | exact Drawn0.refl _ | apply Drawn0.step)⟩
                                    case rest =>
                                      clear HC31
                                      try clear c1
                                      try clear c2
                                      try clear p2
                                      try clear c3
                                      try clear c5
                                      try clear c5b0
                                      try clear c7
                                      try clear c8
                                      try clear c8b0
                                      try clear c8b1
                                      try clear c9
                                      try clear c11
                                      try clear c13
                                      try clear c14
                                      try clear c14b0
                                      try clear c14b1
                                      try clear c15
                                      try clear c17
                                      try clear c17b0
                                      try clear c17b1
                                      try clear c18
                                      try clear c18b0
                                      try clear c18b1
                                      try clear c19
                                      try clear c19b0
                                      try clear c19b1
                                      try clear c20
                                      try clear c20b0
                                      try clear c20b1
                                      try clear c21
                                      try clear c21b0
                                      try clear c21b1
                                      try clear c22
                                      try clear c24
                                      try clear c24b0
                                      try clear c24b1
                                      try clear c25
                                      try clear c25b0
                                      try clear c25b1
                                      try clear c26
                                      try clear c28
                                      try clear c28b0
                                      try clear c28b1
                                      try clear c29
                                      try clear c29b0
                                      try clear c29b1
                                      try clear c30
                                      try clear c32
                                      try clear c32b0
                                      try clear c32b1
                                      try clear c33
                                      try clear c33b0
                                      try clear c33b1
                                      try clear p2
                                      obtain ⟨kq, x80_30, rfl, HA, HJ30, ⟨mc30, rfl⟩⟩ := hcut
                                      cases kq with
                                      | zero => exact absurd HA.out (by simp [spec_l01Plain2.j6])
                                      | succ kj30 =>
                                        have H := HA.out
                                        clear HA
                                        simp only [spec_l01Plain2.j6] at H
                                        by_cases c34 : x80_30 = true
                                        · subst c34
                                          have H1 : (some 3) = some r := by rw [if_pos rfl] at H; exact H
                                          clear H
                                          have H := H1
                                          clear H1
                                          obtain rfl := Option.some.inj H
                                          go_wp2
                                          go_ret
                                          exact ⟨by first | rfl | (simp; done) | (simp [*]; done), by repeat (first | exact Drawn0.refl _ | apply Drawn0.step)⟩
                                        · replace c34 := Bool.eq_false_iff.mpr c34
                                          subst c34
                                          have H1 : (if a0 ≥ 7 then (if a0 ≤ 13 then (if a1 = a2 then (spec_l01Plain2.j7 kj30 a0 a1 a2 true) else ((spec_l01Numbers.f a1 a2).bind fun t102 => (spec_l01Plain2.j7 kj30 a0 a1 a2 t102))) else (spec_l01Plain2.j7 kj30 a0 a1 a2 false)) else (spec_l01Plain2.j7 kj30 a0 a1 a2 false)) = some r := by rw [if_neg (show ¬ (false = true) by decide)] at H; exact H
                                          clear H
                                          have H := H1
                                          clear H1
                                          have HC35 := Aside0.mk H
                                          clear H
                                          go_upto_region 14 with (fail)
                                          go_cut [91] (fun v91 wc => ∃ (kq : Nat) (x91_34 : Bool), v91 = .bool x91_34 ∧ Aside0 (spec_l01Plain2.j7 kq a0 a1 a2 x91_34 = some r) ∧ Aside0 (kq ≤ kj30) ∧ Drawn0 w wc)
                                          case first =>
                                            have H := HC35.out
                                            clear HC35
                                            by_cases c36 : a0 ≥ 7
                                            · rw [if_pos c36] at H
                                              have c36b0 : decide (7 ≤ a0) = true := decide_eq_true c36
                                              clear c36
                                              (first | rw [c36b0] | (simp only [i64_w, i32_w]; rw [c36b0]) | skip)
                                              by_cases c37 : a0 ≤ 13
                                              · rw [if_pos c37] at H
                                                have c37b0 : decide (a0 ≤ 13) = true := decide_eq_true c37
                                                clear c37
                                                by_cases c38 : a1 = a2
                                                · rw [if_pos c38] at H
                                                  have c38b0 : (a1 == a2) = true := beq_iff_eq.mpr c38
                                                  have c38b1 : (a1 != a2) = false := bne_eq_false_iff_eq.mpr c38
                                                  clear c38
                                                  have H' := Aside0.mk H
                                                  clear H
                                                  go_wp2
                                                  go_meet
                                                  case rel => exact ⟨_, (true), (by first | rfl | (simp; done) | (simp [*]; done)), H', ⟨by have := HJ3.out; have := HJ5.out; have := HJ9.out; have := HJ15.out; have := HJ22.out; have := HJ26.out; have := HJ30.out; first | omega | exact Nat.le_refl _⟩, by repeat (first | exact Drawn0.refl _ | apply Drawn0.step)⟩
                                                · rw [if_neg c38] at H
                                                  have c38b0 : (a1 == a2) = false := beq_eq_false_iff_ne.mpr c38
                                                  have c38b1 : (a1 != a2) = true := bne_iff_ne.mpr c38
                                                  replace H := Option.bind_eq_some_iff.mp H
                                                  obtain ⟨t102, A390, H⟩ := H
                                                  replace H : (spec_l01Plain2.j7 kj30 a0 a1 a2 t102) = some r := H
                                                  have A39 := Aside0.mk A390
                                                  clear A390
                                                  have H' := Aside0.mk H
                                                  clear H
                                                  go_wp2_with (first | (go_at_call 38; (with_reducible refine (spec_l01Numbers.calls a1 a2 t102 _ A39.out).mono ?_); rintro e w' ⟨rfl, ⟨nd, rfl⟩⟩))
                                                  go_meet
                                                  case rel => exact ⟨_, (t102), (by first | rfl | (simp; done) | (simp [*]; done)), H', ⟨by have := HJ3.out; have := HJ5.out; have := HJ9.out; have := HJ15.out; have := HJ22.out; have := HJ26.out; have := HJ30.out; first | omega | exact Nat.le_refl _⟩, by repeat (first | exact Drawn0.refl _ | apply Drawn0.step)⟩
                                              · rw [if_neg c37] at H
                                                have c37b0 : decide (a0 ≤ 13) = false := decide_eq_false c37
                                                clear c37
                                                have H' := Aside0.mk H
                                                clear H
                                                go_wp2
                                                go_meet
                                                case rel => exact ⟨_, (false), (by first | rfl | (simp; done) | (simp [*]; done)), H', ⟨by have := HJ3.out; have := HJ5.out; have := HJ9.out; have := HJ15.out; have := HJ22.out; have := HJ26.out; have := HJ30.out; first | omega | exact Nat.le_refl _⟩, by repeat (first | exact Drawn0.refl _ | apply Drawn0.step)⟩
                                            · rw [if_neg c36] at H
                                              have c36b0 : decide (7 ≤ a0) = false := decide_eq_false c36
                                              clear c36
                                              (first | rw [c36b0] | (simp only [i64_w, i32_w]; rw [c36b0]) | skip)
                                              have H' := Aside0.mk H
                                              clear H
                                              go_wp2
                                              go_meet
                                              case rel => exact ⟨_, (false), (by first | rfl | (simp; done) | (simp [*]; done)), H', ⟨by have := HJ3.out; have := HJ5.out; have := HJ9.out; have := HJ15.out; have := HJ22.out; have := HJ26.out; have := HJ30.out; first | omega | exact Nat.le_refl _⟩, by repeat (first | exact Drawn0.refl _ | apply Drawn0.step)⟩
                                          case rest =>
                                            clear HC35
                                            try clear c1
                                            try clear c2
                                            try clear p2
                                            try clear c3
                                            try clear c5
                                            try clear c5b0
                                            try clear c7
                                            try clear c8
                                            try clear c8b0
                                            try clear c8b1
                                            try clear c9
                                            try clear c11
                                            try clear c13
                                            try clear c14
                                            try clear c14b0
                                            try clear c14b1
                                            try clear c15
                                            try clear c17
                                            try clear c17b0
                                            try clear c17b1
                                            try clear c18
                                            try clear c18b0
                                            try clear c18b1
                                            try clear c19
                                            try clear c19b0
                                            try clear c19b1
                                            try clear c20
                                            try clear c20b0
                                            try clear c20b1
                                            try clear c21
                                            try clear c21b0
                                            try clear c21b1
                                            try clear c22
                                            try clear c24
                                            try clear c24b0
                                            try clear c24b1
                                            try clear c25
                                            try clear c25b0
                                            try clear c25b1
                                            try clear c26
                                            try clear c28
                                            try clear c28b0
                                            try clear c28b1
                                            try clear c29
                                            try clear c29b0
                                            try clear c29b1
                                            try clear c30
                                            try clear c32
                                            try clear c32b0
                                            try clear c32b1
                                            try clear c33
                                            try clear c33b0
                                            try clear c33b1
                                            try clear c34
                                            try clear c36
                                            try clear c36b0
                                            try clear c37
                                            try clear c37b0
                                            try clear c38
                                            try clear c38b0
                                            try clear c38b1
                                            try clear p2
                                            obtain ⟨kq, x91_34, rfl, HA, HJ34, ⟨mc34, rfl⟩⟩ := hcut
                                            cases kq with
                                            | zero => exact absurd HA.out (by simp [spec_l01Plain2.j7])
                                            | succ kj34 =>
                                              have H := HA.out
                                              clear HA
                                              simp only [spec_l01Plain2.j7] at H
                                              by_cases c40 : x91_34 = true
                                              · subst c40
                                                have H1 : (some 4) = some r := by rw [if_pos rfl] at H; exact H
                                                clear H
                                                have H := H1
                                                clear H1
                                                obtain rfl := Option.some.inj H
                                                go_wp2
                                                go_ret
                                                exact ⟨by first | rfl | (simp; done) | (simp [*]; done), by repeat (first | exact Drawn0.refl _ | apply Drawn0.step)⟩
                                              · replace c40 := Bool.eq_false_iff.mpr c40
                                                subst c40
                                                have H1 : (if a0 = 14 then (if a1 = 4 then (if a2 = 4 then (some 4) else (some (-1))) else (some (-1))) else (if a0 = 15 then (if a1 = 4 then (if a2 = 4 then (some 4) else (some (-1))) else (some (-1))) else (some (-1)))) = some r := by rw [if_neg (show ¬ (false = true) by decide)] at H; exact H
                                                clear H
                                                have H := H1
                                                clear H1
                                                by_cases c41 : a0 = 14
                                                · rw [if_pos c41] at H
                                                  have c41b0 : (a0 == 14) = true := beq_iff_eq.mpr c41
                                                  have c41b1 : (a0 != 14) = false := bne_eq_false_iff_eq.mpr c41
                                                  clear c41
                                                  by_cases c42 : a1 = 4
                                                  · rw [if_pos c42] at H
                                                    have c42b0 : (a1 == 4) = true := beq_iff_eq.mpr c42
                                                    have c42b1 : (a1 != 4) = false := bne_eq_false_iff_eq.mpr c42
                                                    clear c42
                                                    by_cases c43 : a2 = 4
                                                    · rw [if_pos c43] at H
                                                      have c43b0 : (a2 == 4) = true := beq_iff_eq.mpr c43
                                                      have c43b1 : (a2 != 4) = false := bne_eq_false_iff_eq.mpr c43
                                                      clear c43
                                                      obtain rfl := Option.some.inj H
                                                      go_wp2
                                                      go_ret
                                                      exact ⟨by first | rfl | (simp; done) | (simp [*]; done), by repeat (first | exact Drawn0.refl _ | apply Drawn0.step)⟩
                                                    · rw [if_neg c43] at H
                                                      have c43b0 : (a2 == 4) = false := beq_eq_false_iff_ne.mpr c43
                                                      have c43b1 : (a2 != 4) = true := bne_iff_ne.mpr c43
                                                      obtain rfl := Option.some.inj H
                                                      go_wp2
                                                      go_ret
                                                      exact ⟨by first | rfl | (simp; done) | (simp [*]; done), by repeat (first | exact Drawn0.refl _ | apply Drawn0.step)⟩
                                                  · rw [if_neg c42] at H
                                                    have c42b0 : (a1 == 4) = false := beq_eq_false_iff_ne.mpr c42
                                                    have c42b1 : (a1 != 4) = true := bne_iff_ne.mpr c42
                                                    obtain rfl := Option.some.inj H
                                                    go_wp2
                                                    go_ret
                                                    exact ⟨by first | rfl | (simp; done) | (simp [*]; done), by repeat (first | exact Drawn0.refl _ | apply Drawn0.step)⟩
                                                · rw [if_neg c41] at H
                                                  have c41b0 : (a0 == 14) = false := beq_eq_false_iff_ne.mpr c41
                                                  have c41b1 : (a0 != 14) = true := bne_iff_ne.mpr c41
                                                  by_cases c44 : a0 = 15
                                                  · rw [if_pos c44] at H
                                                    have c44b0 : (a0 == 15) = true := beq_iff_eq.mpr c44
                                                    have c44b1 : (a0 != 15) = false := bne_eq_false_iff_eq.mpr c44
                                                    clear c44
                                                    by_cases c45 : a1 = 4
                                                    · rw [if_pos c45] at H
                                                      have c45b0 : (a1 == 4) = true := beq_iff_eq.mpr c45
                                                      have c45b1 : (a1 != 4) = false := bne_eq_false_iff_eq.mpr c45
                                                      clear c45
                                                      by_cases c46 : a2 = 4
                                                      · rw [if_pos c46] at H
                                                        have c46b0 : (a2 == 4) = true := beq_iff_eq.mpr c46
                                                        have c46b1 : (a2 != 4) = false := bne_eq_false_iff_eq.mpr c46
                                                        clear c46
                                                        obtain rfl := Option.some.inj H
                                                        go_wp2
                                                        go_ret
                                                        exact ⟨by first | rfl | (simp; done) | (simp [*]; done), by repeat (first | exact Drawn0.refl _ | apply Drawn0.step)⟩
                                                      · rw [if_neg c46] at H
                                                        have c46b0 : (a2 == 4) = false := beq_eq_false_iff_ne.mpr c46
                                                        have c46b1 : (a2 != 4) = true := bne_iff_ne.mpr c46
                                                        obtain rfl := Option.some.inj H
                                                        go_wp2
                                                        go_ret
                                                        exact ⟨by first | rfl | (simp; done) | (simp [*]; done), by repeat (first | exact Drawn0.refl _ | apply Drawn0.step)⟩
                                                    · rw [if_neg c45] at H
                                                      have c45b0 : (a1 == 4) = false := beq_eq_false_iff_ne.mpr c45
                                                      have c45b1 : (a1 != 4) = true := bne_iff_ne.mpr c45
                                                      obtain rfl := Option.some.inj H
                                                      go_wp2
                                                      go_ret
                                                      exact ⟨by first | rfl | (simp; done) | (simp [*]; done), by repeat (first | exact Drawn0.refl _ | apply Drawn0.step)⟩
                                                  · rw [if_neg c44] at H
                                                    have c44b0 : (a0 == 15) = false := beq_eq_false_iff_ne.mpr c44
                                                    have c44b1 : (a0 != 15) = true := bne_iff_ne.mpr c44
                                                    obtain rfl := Option.some.inj H
                                                    go_wp2
                                                    go_ret
                                                    exact ⟨by first | rfl | (simp; done) | (simp [*]; done), by repeat (first | exact Drawn0.refl _ | apply Drawn0.step)⟩

end Go.Proofs.Ytimngliodeefjaa.QFnExactCallKind
