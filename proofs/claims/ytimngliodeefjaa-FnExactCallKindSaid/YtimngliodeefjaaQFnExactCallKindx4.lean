-- Laid by a program of the session's own (wip/tools/mp.py); not the kit's print.
import Derived.Test.YtimngliodeefjaaQFnExactCallKindx0
import Derived.Test.YtimngliodeefjaaQFnExactCallKindx1
import Derived.Test.YtimngliodeefjaaQFnExactCallKindx3
namespace Go.Proofs.Ytimngliodeefjaa.QFnExactCallKind
open Go.RowKit Go.Proofs.YtimngliodeefjaaW.PrintWords Go.Proofs.YtimngliodeefjaaW.PrintLast Go.Proofs.YtimngliodeefjaaW.PrintMore Go.Proofs.YtimngliodeefjaaExt
attribute [local go_sem] max2_int min2_int max_two min_two max_three min_three max_four min_four   -- for this text's walks alone
set_option linter.unusedVariables false
set_option linter.unusedSimpArgs false

/-! ### spec_CallKind: function 17 -/
mutual
def spec_CallKind.l0 : Nat → Int → List Int → List Int → Int → Int → Option (Int)
  | 0, _, _, _, _, _ => none
  | k + 1, x0, x1, x11, x12, x13 => if x13 < x12 then (if 0 ≤ x13 then (if x13 < (x11.length : Int) then ((spec_l01IsKind.f (rd x11 x13)).bind fun t109 => (if t109 = true then (spec_CallKind.l0 k x0 x1 x11 x12 (wrap64 (x13 + 1))) else (some (-1)))) else (none)) else (none)) else (if x0 = 1 then (if (x1.length : Int) = 1 then (if 0 < (x1.length : Int) then (if (rd x1 0) = 1 then (some (rd x1 0)) else ((spec_l01Fits.f (rd x1 0) 2).bind fun t113 => (if t113 = true then (some (rd x1 0)) else (some (-1))))) else (none)) else (some (-1))) else (if x0 = 2 then (if (x1.length : Int) = 1 then (if 0 < (x1.length : Int) then ((spec_l01Fits.f (rd x1 0) 3).bind fun t116 => (if t116 = true then (some 1) else (some (-1)))) else (none)) else (some (-1))) else (if x0 = 3 then (spec_CallKind.j1 k x1 (x1.length : Int) x0 (x0 == 3)) else (if x0 = 4 then (spec_CallKind.j1 k x1 (x1.length : Int) x0 (x0 == 4)) else (spec_CallKind.j1 k x1 (x1.length : Int) x0 (x0 == 11))))))
def spec_CallKind.j1 : Nat → List Int → Int → Int → Bool → Option (Int)
  | 0, _, _, _, _ => none
  | k + 1, x1, x7, x23, x53 => if x53 = true then (if x7 = 1 then (if 0 < (x1.length : Int) then ((spec_l01Fits.f (rd x1 0) 3).bind fun t118 => (if t118 = true then (some 3) else (some (-1)))) else (none)) else (some (-1))) else (if x23 = 5 then (if x7 = 3 then (if 0 < (x1.length : Int) then ((spec_l01Fits.f (rd x1 0) 3).bind fun t120 => (if t120 = true then (if 1 < (x1.length : Int) then ((spec_l01Fits.f (rd x1 1) 1).bind fun t122 => (if t122 = true then (if 2 < (x1.length : Int) then ((spec_l01Fits.f (rd x1 2) 1).bind fun t124 => (if t124 = true then (some 3) else (some (-1)))) else (none)) else (some (-1)))) else (none)) else (some (-1)))) else (none)) else (some (-1))) else (if x23 = 6 then (if x7 = 2 then (if 0 < (x1.length : Int) then (if 1 < (x1.length : Int) then ((spec_OpKind.f k 7 (rd x1 0) (rd x1 1)).bind fun t127 => (if t127 ≥ 0 then (some (rd x1 0)) else (some (-1)))) else (none)) else (none)) else (some (-1))) else (if x23 = 7 then (spec_CallKind.j2 k x1 x7 x23 (x23 == 7)) else (if x23 = 8 then (spec_CallKind.j2 k x1 x7 x23 (x23 == 8)) else (spec_CallKind.j2 k x1 x7 x23 (x23 == 9))))))
def spec_CallKind.j2 : Nat → List Int → Int → Int → Bool → Option (Int)
  | 0, _, _, _, _ => none
  | k + 1, x1, x7, x23, x104 => if x104 = true then (if x7 = 1 then (if 0 < (x1.length : Int) then ((spec_l01Fits.f (rd x1 0) 5).bind fun t130 => (if t130 = true then (some 1) else (some (-1)))) else (none)) else (some (-1))) else (if x23 = 10 then (if x7 = 1 then (if 0 < (x1.length : Int) then ((spec_l01Fits.f (rd x1 0) 2).bind fun t132 => (if t132 = true then (some 2) else (some (-1)))) else (none)) else (some (-1))) else (if x23 = 12 then (spec_CallKind.j3 k x1 x7 (x23 == 12)) else (spec_CallKind.j3 k x1 x7 (x23 == 13))))
def spec_CallKind.j3 : Nat → List Int → Int → Bool → Option (Int)
  | 0, _, _, _ => none
  | k + 1, x1, x7, x126 => if x126 = true then (if x7 = 2 then (if 1 < (x1.length : Int) then (if 0 < (x1.length : Int) then ((spec_l01Fits.f (rd x1 1) (rd x1 0)).bind fun t135 => (spec_CallKind.j4 k x1 x7 t135)) else (none)) else (none)) else (spec_CallKind.j4 k x1 x7 false)) else (some (-1))
def spec_CallKind.j4 : Nat → List Int → Int → Bool → Option (Int)
  | 0, _, _, _ => none
  | k + 1, x1, x7, x139 => if x139 = true then (if 0 < (x1.length : Int) then (some (rd x1 0)) else (none)) else (if x7 = 2 then (if 0 < (x1.length : Int) then (if (rd x1 0) = 0 then (if 1 < (x1.length : Int) then (some (rd x1 1)) else (none)) else (some (-1))) else (none)) else (some (-1)))
end
def spec_CallKind.f (k : Nat) (a0 : Int) (l1 : List Int) : Option (Int) := if (l1.length : Int) > 8 then (some (-1)) else (spec_CallKind.l0 k a0 l1 l1 (l1.length : Int) 0)
theorem spec_CallKind.mono_l : ∀ k, (∀ y0 y1 y2 y3 y4, LeO (spec_CallKind.l0 k y0 y1 y2 y3 y4) (spec_CallKind.l0 (k + 1) y0 y1 y2 y3 y4)) ∧ (∀ y0 y1 y2 y3, LeO (spec_CallKind.j1 k y0 y1 y2 y3) (spec_CallKind.j1 (k + 1) y0 y1 y2 y3)) ∧ (∀ y0 y1 y2 y3, LeO (spec_CallKind.j2 k y0 y1 y2 y3) (spec_CallKind.j2 (k + 1) y0 y1 y2 y3)) ∧ (∀ y0 y1 y2, LeO (spec_CallKind.j3 k y0 y1 y2) (spec_CallKind.j3 (k + 1) y0 y1 y2)) ∧ (∀ y0 y1 y2, LeO (spec_CallKind.j4 k y0 y1 y2) (spec_CallKind.j4 (k + 1) y0 y1 y2))
  | 0 => ⟨fun _ _ _ _ _ r h => by simp [spec_CallKind.l0] at h, fun _ _ _ _ r h => by simp [spec_CallKind.j1] at h, fun _ _ _ _ r h => by simp [spec_CallKind.j2] at h, fun _ _ _ r h => by simp [spec_CallKind.j3] at h, fun _ _ _ r h => by simp [spec_CallKind.j4] at h⟩
  | k + 1 => by
    obtain ⟨ih0, ih1, ih2, ih3, ih4⟩ := spec_CallKind.mono_l k
    refine ⟨?_, ?_, ?_, ?_, ?_⟩
    · intro y0 y1 y2 y3 y4
      unfold spec_CallKind.l0
      repeat' first
      | (with_reducible exact ih0 _ _ _ _ _)
      | (with_reducible exact ih1 _ _ _ _)
      | (with_reducible exact ih2 _ _ _ _)
      | (with_reducible exact ih3 _ _ _)
      | (with_reducible exact ih4 _ _ _)
      | (with_reducible exact spec_OpKind.mono _ _ _ _)
      | (with_reducible exact LeO.refl _)
      | (with_reducible exact LeO.none _)
      | (with_reducible refine LeO.ite ?_ ?_)
      | (with_reducible refine LeO.bind ?_ (fun _ => ?_))
      | exact ih0 _ _ _ _ _
      | exact ih1 _ _ _ _
      | exact ih2 _ _ _ _
      | exact ih3 _ _ _
      | exact ih4 _ _ _
      | exact spec_OpKind.mono _ _ _ _
      | exact LeO.none _
      | refine LeO.ite ?_ ?_
      | refine LeO.bind ?_ (fun _ => ?_)
    · intro y0 y1 y2 y3
      unfold spec_CallKind.j1
      repeat' first
      | (with_reducible exact ih0 _ _ _ _ _)
      | (with_reducible exact ih1 _ _ _ _)
      | (with_reducible exact ih2 _ _ _ _)
      | (with_reducible exact ih3 _ _ _)
      | (with_reducible exact ih4 _ _ _)
      | (with_reducible exact spec_OpKind.mono _ _ _ _)
      | (with_reducible exact LeO.refl _)
      | (with_reducible exact LeO.none _)
      | (with_reducible refine LeO.ite ?_ ?_)
      | (with_reducible refine LeO.bind ?_ (fun _ => ?_))
      | exact ih0 _ _ _ _ _
      | exact ih1 _ _ _ _
      | exact ih2 _ _ _ _
      | exact ih3 _ _ _
      | exact ih4 _ _ _
      | exact spec_OpKind.mono _ _ _ _
      | exact LeO.none _
      | refine LeO.ite ?_ ?_
      | refine LeO.bind ?_ (fun _ => ?_)
    · intro y0 y1 y2 y3
      unfold spec_CallKind.j2
      repeat' first
      | (with_reducible exact ih0 _ _ _ _ _)
      | (with_reducible exact ih1 _ _ _ _)
      | (with_reducible exact ih2 _ _ _ _)
      | (with_reducible exact ih3 _ _ _)
      | (with_reducible exact ih4 _ _ _)
      | (with_reducible exact spec_OpKind.mono _ _ _ _)
      | (with_reducible exact LeO.refl _)
      | (with_reducible exact LeO.none _)
      | (with_reducible refine LeO.ite ?_ ?_)
      | (with_reducible refine LeO.bind ?_ (fun _ => ?_))
      | exact ih0 _ _ _ _ _
      | exact ih1 _ _ _ _
      | exact ih2 _ _ _ _
      | exact ih3 _ _ _
      | exact ih4 _ _ _
      | exact spec_OpKind.mono _ _ _ _
      | exact LeO.none _
      | refine LeO.ite ?_ ?_
      | refine LeO.bind ?_ (fun _ => ?_)
    · intro y0 y1 y2
      unfold spec_CallKind.j3
      repeat' first
      | (with_reducible exact ih0 _ _ _ _ _)
      | (with_reducible exact ih1 _ _ _ _)
      | (with_reducible exact ih2 _ _ _ _)
      | (with_reducible exact ih3 _ _ _)
      | (with_reducible exact ih4 _ _ _)
      | (with_reducible exact spec_OpKind.mono _ _ _ _)
      | (with_reducible exact LeO.refl _)
      | (with_reducible exact LeO.none _)
      | (with_reducible refine LeO.ite ?_ ?_)
      | (with_reducible refine LeO.bind ?_ (fun _ => ?_))
      | exact ih0 _ _ _ _ _
      | exact ih1 _ _ _ _
      | exact ih2 _ _ _ _
      | exact ih3 _ _ _
      | exact ih4 _ _ _
      | exact spec_OpKind.mono _ _ _ _
      | exact LeO.none _
      | refine LeO.ite ?_ ?_
      | refine LeO.bind ?_ (fun _ => ?_)
    · intro y0 y1 y2
      unfold spec_CallKind.j4
      repeat' first
      | (with_reducible exact ih0 _ _ _ _ _)
      | (with_reducible exact ih1 _ _ _ _)
      | (with_reducible exact ih2 _ _ _ _)
      | (with_reducible exact ih3 _ _ _)
      | (with_reducible exact ih4 _ _ _)
      | (with_reducible exact spec_OpKind.mono _ _ _ _)
      | (with_reducible exact LeO.refl _)
      | (with_reducible exact LeO.none _)
      | (with_reducible refine LeO.ite ?_ ?_)
      | (with_reducible refine LeO.bind ?_ (fun _ => ?_))
      | exact ih0 _ _ _ _ _
      | exact ih1 _ _ _ _
      | exact ih2 _ _ _ _
      | exact ih3 _ _ _
      | exact ih4 _ _ _
      | exact spec_OpKind.mono _ _ _ _
      | exact LeO.none _
      | refine LeO.ite ?_ ?_
      | refine LeO.bind ?_ (fun _ => ?_)
theorem spec_CallKind.mono : ∀ a0 a1 k, LeO (spec_CallKind.f k a0 a1) (spec_CallKind.f (k + 1) a0 a1) := by
  intro a0 a1 k
  obtain ⟨ih0, ih1, ih2, ih3, ih4⟩ := spec_CallKind.mono_l k
  unfold spec_CallKind.f
  repeat' first
      | (with_reducible exact ih0 _ _ _ _ _)
      | (with_reducible exact ih1 _ _ _ _)
      | (with_reducible exact ih2 _ _ _ _)
      | (with_reducible exact ih3 _ _ _)
      | (with_reducible exact ih4 _ _ _)
      | (with_reducible exact spec_OpKind.mono _ _ _ _)
      | (with_reducible exact LeO.refl _)
      | (with_reducible exact LeO.none _)
      | (with_reducible refine LeO.ite ?_ ?_)
      | (with_reducible refine LeO.bind ?_ (fun _ => ?_))
      | exact ih0 _ _ _ _ _
      | exact ih1 _ _ _ _
      | exact ih2 _ _ _ _
      | exact ih3 _ _ _
      | exact ih4 _ _ _
      | exact spec_OpKind.mono _ _ _ _
      | exact LeO.none _
      | refine LeO.ite ?_ ?_
      | refine LeO.bind ?_ (fun _ => ?_)
set_option maxHeartbeats 8000000 in
set_option maxRecDepth 100000 in
theorem spec_CallKind.calls (k : Nat) (a0 : Int) (A1 : Option Addr) (c1 : Nat) (l1 : List Int) (r : Int) (w : World) (hr1 : Kd.C (Kd.int .i64) w A1 l1.length l1) (hc1 : l1.length ≤ c1) (h : spec_CallKind.f k a0 l1 = some r) :
    Calls Try.prog 17 #[.int .i64 a0, .slice A1 l1.length c1] w fun e w' => e = .returned (.int .i64 r) ∧ Drawn0 w w' := by
  have HR1 := Aside0.mk hr1
  have HC1 := Aside0.mk hc1
  clear hr1 hc1
  have H : (if (l1.length : Int) > 8 then (some (-1)) else (spec_CallKind.l0 k a0 l1 l1 (l1.length : Int) 0)) = some r := h
  clear h
  by_cases c3 : (l1.length : Int) > 8
  · rw [if_pos c3] at H
    have c3b0 : decide (8 < (l1.length : Int)) = true := decide_eq_true c3
    have c3b1 : decide (8 < l1.length) = true := decide_eq_true (by omega)
    clear c3
    obtain rfl := Option.some.inj H
    go_enter Try.func17, Try.ntmps17
    go_wp2
    repeat (go_quiet (fail); try go_wp2)
    go_ret
    exact ⟨by first | rfl | (simp; done) | (simp [*]; done), by repeat (first | exact Drawn0.refl _ | apply Drawn0.step)⟩
  · rw [if_neg c3] at H
    have c3b0 : decide (8 < (l1.length : Int)) = false := decide_eq_false c3
    have c3b1 : decide (8 < l1.length) = false := decide_eq_false (by omega)
    clear c3
    have H' := Aside0.mk H
    clear H
    go_enter Try.func17, Try.ntmps17
    go_wp2
    repeat (go_quiet (fail); try go_wp2)
    go_loopg [13] k (fun kq v13 w' => ∃ (x13_1 : Int), v13 = .int .i64 x13_1 ∧ Aside0 (spec_CallKind.l0 kq a0 l1 l1 (l1.length : Int) x13_1 = some r) ∧ Aside0 (kq ≤ k) ∧ Drawn0 w w')
    case atStart => exact ⟨(0), (by first | rfl | (simp; done) | (simp [*]; done)), H', ⟨Nat.le_refl _⟩, by repeat (first | exact Drawn0.refl _ | apply Drawn0.step)⟩
    case round =>
      clear H'
      try clear c1
      try clear p2
      try clear c3
      try clear c3b0
      try clear c3b1
      obtain ⟨x13_1, rfl, HA, HK1, ⟨m1, rfl⟩⟩ := hrel
      cases gk with
      | zero => exact absurd HA.out (by simp [spec_CallKind.l0])
      | succ k1 =>
        have H := HA.out
        clear HA
        simp only [spec_CallKind.l0] at H
        by_cases c4 : x13_1 < (l1.length : Int)
        · rw [if_pos c4] at H
          have c4b0 : decide (x13_1 < (l1.length : Int)) = true := decide_eq_true c4
          clear c4
          by_cases c5 : 0 ≤ x13_1
          · rw [if_pos c5] at H
            have c5b0 : decide (0 ≤ x13_1) = true := decide_eq_true c5
            clear c5
            by_cases c6 : x13_1 < (l1.length : Int)
            · rw [if_pos c6] at H
              have c6b0 : decide (x13_1 < (l1.length : Int)) = true := decide_eq_true c6
              clear c6
              replace H := Option.bind_eq_some_iff.mp H
              obtain ⟨t109, A70, H⟩ := H
              replace H : (if t109 = true then (spec_CallKind.l0 k1 a0 l1 l1 (l1.length : Int) (wrap64 (x13_1 + 1))) else (some (-1))) = some r := H
              have A7 := Aside0.mk A70
              clear A70
              by_cases c8 : t109 = true
              · subst c8
                have H1 : (spec_CallKind.l0 k1 a0 l1 l1 (l1.length : Int) (wrap64 (x13_1 + 1))) = some r := by rw [if_pos rfl] at H; exact H
                clear H
                have H := H1
                clear H1
                have H' := Aside0.mk H
                clear H
                have p108 : 0 ≤ (x13_1 : Int) := of_decide_eq_true (by first | (with_reducible assumption) | assumption)
                have q108 : x13_1 < (l1.length : Int) := of_decide_eq_true (by first | (with_reducible assumption) | assumption)
                obtain ⟨ad108, e108, hx108_0⟩ := Kd.at_int HR1.out x13_1 p108 q108
                cases e108
                replace p108 := eq_true p108
                replace q108 := eq_true q108
                go_wp2_with (first | (go_at_call 21; (with_reducible refine (spec_l01IsKind.calls (rd l1 x13_1) true _ A7.out).mono ?_); rintro e w' ⟨rfl, ⟨nd, rfl⟩⟩; (try first | exact ⟨rfl, _, World.drewN_drewN _ _ _⟩ | exact ⟨rfl, _, Eq.trans (World.drewN_drewN _ _ _) (congrArg (World.drewN _) (Nat.add_assoc _ _ _))⟩)))
                repeat (go_quiet (first | (go_at_call 21; (with_reducible refine (spec_l01IsKind.calls (rd l1 x13_1) true _ A7.out).mono ?_); rintro e w' ⟨rfl, ⟨nd, rfl⟩⟩; (try first | exact ⟨rfl, _, World.drewN_drewN _ _ _⟩ | exact ⟨rfl, _, Eq.trans (World.drewN_drewN _ _ _) (congrArg (World.drewN _) (Nat.add_assoc _ _ _))⟩))); try go_wp2_with (first | (go_at_call 21; (with_reducible refine (spec_l01IsKind.calls (rd l1 x13_1) true _ A7.out).mono ?_); rintro e w' ⟨rfl, ⟨nd, rfl⟩⟩; (try first | exact ⟨rfl, _, World.drewN_drewN _ _ _⟩ | exact ⟨rfl, _, Eq.trans (World.drewN_drewN _ _ _) (congrArg (World.drewN _) (Nat.add_assoc _ _ _))⟩))))
                go_roundg k1
                case measure => have := HK1.out; omega
                case rel => exact ⟨(wrap64 (x13_1 + 1)), (by first | rfl | (simp; done) | (simp [*]; done)), H', ⟨by have := HK1.out; omega⟩, by repeat (first | exact Drawn0.refl _ | apply Drawn0.step)⟩
              · replace c8 := Bool.eq_false_iff.mpr c8
                subst c8
                have H1 : (some (-1)) = some r := by rw [if_neg (show ¬ (false = true) by decide)] at H; exact H
                clear H
                have H := H1
                clear H1
                obtain rfl := Option.some.inj H
                have p108 : 0 ≤ (x13_1 : Int) := of_decide_eq_true (by first | (with_reducible assumption) | assumption)
                have q108 : x13_1 < (l1.length : Int) := of_decide_eq_true (by first | (with_reducible assumption) | assumption)
                obtain ⟨ad108, e108, hx108_0⟩ := Kd.at_int HR1.out x13_1 p108 q108
                cases e108
                replace p108 := eq_true p108
                replace q108 := eq_true q108
                go_wp2_with (first | (go_at_call 21; (with_reducible refine (spec_l01IsKind.calls (rd l1 x13_1) false _ A7.out).mono ?_); rintro e w' ⟨rfl, ⟨nd, rfl⟩⟩; (try first | exact ⟨rfl, _, World.drewN_drewN _ _ _⟩ | exact ⟨rfl, _, Eq.trans (World.drewN_drewN _ _ _) (congrArg (World.drewN _) (Nat.add_assoc _ _ _))⟩)))
                repeat (go_quiet (first | (go_at_call 21; (with_reducible refine (spec_l01IsKind.calls (rd l1 x13_1) false _ A7.out).mono ?_); rintro e w' ⟨rfl, ⟨nd, rfl⟩⟩; (try first | exact ⟨rfl, _, World.drewN_drewN _ _ _⟩ | exact ⟨rfl, _, Eq.trans (World.drewN_drewN _ _ _) (congrArg (World.drewN _) (Nat.add_assoc _ _ _))⟩))); try go_wp2_with (first | (go_at_call 21; (with_reducible refine (spec_l01IsKind.calls (rd l1 x13_1) false _ A7.out).mono ?_); rintro e w' ⟨rfl, ⟨nd, rfl⟩⟩; (try first | exact ⟨rfl, _, World.drewN_drewN _ _ _⟩ | exact ⟨rfl, _, Eq.trans (World.drewN_drewN _ _ _) (congrArg (World.drewN _) (Nat.add_assoc _ _ _))⟩))))
                go_ret
                exact ⟨by first | rfl | (simp; done) | (simp [*]; done), by repeat (first | exact Drawn0.refl _ | apply Drawn0.step)⟩
            · rw [if_neg c6] at H
              exact absurd H (by simp)
          · rw [if_neg c5] at H
            exact absurd H (by simp)
        · rw [if_neg c4] at H
          have c4b0 : decide (x13_1 < (l1.length : Int)) = false := decide_eq_false c4
          clear c4
          by_cases c9 : a0 = 1
          · rw [if_pos c9] at H
            have c9b0 : (a0 == 1) = true := beq_iff_eq.mpr c9
            have c9b1 : (a0 != 1) = false := bne_eq_false_iff_eq.mpr c9
            clear c9
            by_cases c10 : (l1.length : Int) = 1
            · rw [if_pos c10] at H
              have c10b0 : ((l1.length : Int) == 1) = true := beq_iff_eq.mpr c10
              have c10b1 : ((l1.length : Int) != 1) = false := bne_eq_false_iff_eq.mpr c10
              clear c10
              by_cases c11 : 0 < (l1.length : Int)
              · rw [if_pos c11] at H
                have c11b0 : decide (0 < (l1.length : Int)) = true := decide_eq_true c11
                have c11b1 : decide (0 < l1.length) = true := decide_eq_true (by omega)
                clear c11
                by_cases c12 : (rd l1 0) = 1
                · rw [if_pos c12] at H
                  have c12b0 : ((rd l1 0) == 1) = true := beq_iff_eq.mpr c12
                  have c12b1 : ((rd l1 0) != 1) = false := bne_eq_false_iff_eq.mpr c12
                  clear c12
                  obtain rfl := Option.some.inj H
                  have p110 : 0 ≤ (0 : Int) := (by omega)
                  have q110 : 0 < (l1.length : Int) := of_decide_eq_true (by first | (with_reducible assumption) | assumption)
                  obtain ⟨ad110, e110, hx110_0⟩ := Kd.at_int HR1.out 0 p110 q110
                  cases e110
                  have qi110 : (0 < l1.length) = True := eq_true (by omega)
                  (try rw [show ((0 : Int)).toNat = 0 from rfl] at hx110_0)
                  (try rw [Addr.add_zero'] at hx110_0)
                  replace p110 := eq_true p110
                  replace q110 := eq_true q110
                  have p111 : 0 ≤ (0 : Int) := (by omega)
                  have q111 : 0 < (l1.length : Int) := of_decide_eq_true (by first | (with_reducible assumption) | assumption)
                  obtain ⟨ad111, e111, hx111_0⟩ := Kd.at_int HR1.out 0 p111 q111
                  obtain rfl : ad110 = ad111 := (by injection e111)
                  have qi111 : (0 < l1.length) = True := eq_true (by omega)
                  (try rw [show ((0 : Int)).toNat = 0 from rfl] at hx111_0)
                  (try rw [Addr.add_zero'] at hx111_0)
                  replace p111 := eq_true p111
                  replace q111 := eq_true q111
                  go_wp2
                  repeat (go_quiet (fail); try go_wp2)
                  go_ret
                  exact ⟨by first | rfl | (simp; done) | (simp [*]; done), by repeat (first | exact Drawn0.refl _ | apply Drawn0.step)⟩
                · rw [if_neg c12] at H
                  have c12b0 : ((rd l1 0) == 1) = false := beq_eq_false_iff_ne.mpr c12
                  have c12b1 : ((rd l1 0) != 1) = true := bne_iff_ne.mpr c12
                  replace H := Option.bind_eq_some_iff.mp H
                  obtain ⟨t113, A130, H⟩ := H
                  replace H : (if t113 = true then (some (rd l1 0)) else (some (-1))) = some r := H
                  have A13 := Aside0.mk A130
                  clear A130
                  by_cases c14 : t113 = true
                  · subst c14
                    have H1 : (some (rd l1 0)) = some r := by rw [if_pos rfl] at H; exact H
                    clear H
                    have H := H1
                    clear H1
                    obtain rfl := Option.some.inj H
                    have p110 : 0 ≤ (0 : Int) := (by omega)
                    have q110 : 0 < (l1.length : Int) := of_decide_eq_true (by first | (with_reducible assumption) | assumption)
                    obtain ⟨ad110, e110, hx110_0⟩ := Kd.at_int HR1.out 0 p110 q110
                    cases e110
                    have qi110 : (0 < l1.length) = True := eq_true (by omega)
                    (try rw [show ((0 : Int)).toNat = 0 from rfl] at hx110_0)
                    (try rw [Addr.add_zero'] at hx110_0)
                    replace p110 := eq_true p110
                    replace q110 := eq_true q110
                    have p112 : 0 ≤ (0 : Int) := (by omega)
                    have q112 : 0 < (l1.length : Int) := of_decide_eq_true (by first | (with_reducible assumption) | assumption)
                    obtain ⟨ad112, e112, hx112_0⟩ := Kd.at_int HR1.out 0 p112 q112
                    obtain rfl : ad110 = ad112 := (by injection e112)
                    have qi112 : (0 < l1.length) = True := eq_true (by omega)
                    (try rw [show ((0 : Int)).toNat = 0 from rfl] at hx112_0)
                    (try rw [Addr.add_zero'] at hx112_0)
                    replace p112 := eq_true p112
                    replace q112 := eq_true q112
                    go_wp2_with (first | (go_at_call 32; (with_reducible refine (spec_l01Fits.calls (rd l1 0) 2 true _ A13.out).mono ?_); rintro e w' ⟨rfl, ⟨nd, rfl⟩⟩; (try first | exact ⟨rfl, _, World.drewN_drewN _ _ _⟩ | exact ⟨rfl, _, Eq.trans (World.drewN_drewN _ _ _) (congrArg (World.drewN _) (Nat.add_assoc _ _ _))⟩); have p114 : 0 ≤ (0 : Int) := (by omega); have q114 : 0 < (l1.length : Int) := of_decide_eq_true (by first | (with_reducible assumption) | assumption); obtain ⟨ad114, e114, hx114_0⟩ := Kd.at_int HR1.out 0 p114 q114; obtain rfl : ad110 = ad114 := (by injection e114); have qi114 : (0 < l1.length) = True := eq_true (by omega); (try rw [show ((0 : Int)).toNat = 0 from rfl] at hx114_0); (try rw [Addr.add_zero'] at hx114_0); replace p114 := eq_true p114; replace q114 := eq_true q114))
                    repeat (go_quiet (first | (go_at_call 32; (with_reducible refine (spec_l01Fits.calls (rd l1 0) 2 true _ A13.out).mono ?_); rintro e w' ⟨rfl, ⟨nd, rfl⟩⟩; (try first | exact ⟨rfl, _, World.drewN_drewN _ _ _⟩ | exact ⟨rfl, _, Eq.trans (World.drewN_drewN _ _ _) (congrArg (World.drewN _) (Nat.add_assoc _ _ _))⟩); have p114 : 0 ≤ (0 : Int) := (by omega); have q114 : 0 < (l1.length : Int) := of_decide_eq_true (by first | (with_reducible assumption) | assumption); obtain ⟨ad114, e114, hx114_0⟩ := Kd.at_int HR1.out 0 p114 q114; obtain rfl : ad110 = ad114 := (by injection e114); have qi114 : (0 < l1.length) = True := eq_true (by omega); (try rw [show ((0 : Int)).toNat = 0 from rfl] at hx114_0); (try rw [Addr.add_zero'] at hx114_0); replace p114 := eq_true p114; replace q114 := eq_true q114)); try go_wp2_with (first | (go_at_call 32; (with_reducible refine (spec_l01Fits.calls (rd l1 0) 2 true _ A13.out).mono ?_); rintro e w' ⟨rfl, ⟨nd, rfl⟩⟩; (try first | exact ⟨rfl, _, World.drewN_drewN _ _ _⟩ | exact ⟨rfl, _, Eq.trans (World.drewN_drewN _ _ _) (congrArg (World.drewN _) (Nat.add_assoc _ _ _))⟩); have p114 : 0 ≤ (0 : Int) := (by omega); have q114 : 0 < (l1.length : Int) := of_decide_eq_true (by first | (with_reducible assumption) | assumption); obtain ⟨ad114, e114, hx114_0⟩ := Kd.at_int HR1.out 0 p114 q114; obtain rfl : ad110 = ad114 := (by injection e114); have qi114 : (0 < l1.length) = True := eq_true (by omega); (try rw [show ((0 : Int)).toNat = 0 from rfl] at hx114_0); (try rw [Addr.add_zero'] at hx114_0); replace p114 := eq_true p114; replace q114 := eq_true q114)))
                    go_ret
                    exact ⟨by first | rfl | (simp; done) | (simp [*]; done), by repeat (first | exact Drawn0.refl _ | apply Drawn0.step)⟩
                  · replace c14 := Bool.eq_false_iff.mpr c14
                    subst c14
                    have H1 : (some (-1)) = some r := by rw [if_neg (show ¬ (false = true) by decide)] at H; exact H
                    clear H
                    have H := H1
                    clear H1
                    obtain rfl := Option.some.inj H
                    have p110 : 0 ≤ (0 : Int) := (by omega)
                    have q110 : 0 < (l1.length : Int) := of_decide_eq_true (by first | (with_reducible assumption) | assumption)
                    obtain ⟨ad110, e110, hx110_0⟩ := Kd.at_int HR1.out 0 p110 q110
                    cases e110
                    have qi110 : (0 < l1.length) = True := eq_true (by omega)
                    (try rw [show ((0 : Int)).toNat = 0 from rfl] at hx110_0)
                    (try rw [Addr.add_zero'] at hx110_0)
                    replace p110 := eq_true p110
                    replace q110 := eq_true q110
                    have p112 : 0 ≤ (0 : Int) := (by omega)
                    have q112 : 0 < (l1.length : Int) := of_decide_eq_true (by first | (with_reducible assumption) | assumption)
                    obtain ⟨ad112, e112, hx112_0⟩ := Kd.at_int HR1.out 0 p112 q112
                    obtain rfl : ad110 = ad112 := (by injection e112)
                    have qi112 : (0 < l1.length) = True := eq_true (by omega)
                    (try rw [show ((0 : Int)).toNat = 0 from rfl] at hx112_0)
                    (try rw [Addr.add_zero'] at hx112_0)
                    replace p112 := eq_true p112
                    replace q112 := eq_true q112
                    go_wp2_with (first | (go_at_call 32; (with_reducible refine (spec_l01Fits.calls (rd l1 0) 2 false _ A13.out).mono ?_); rintro e w' ⟨rfl, ⟨nd, rfl⟩⟩; (try first | exact ⟨rfl, _, World.drewN_drewN _ _ _⟩ | exact ⟨rfl, _, Eq.trans (World.drewN_drewN _ _ _) (congrArg (World.drewN _) (Nat.add_assoc _ _ _))⟩)))
                    repeat (go_quiet (first | (go_at_call 32; (with_reducible refine (spec_l01Fits.calls (rd l1 0) 2 false _ A13.out).mono ?_); rintro e w' ⟨rfl, ⟨nd, rfl⟩⟩; (try first | exact ⟨rfl, _, World.drewN_drewN _ _ _⟩ | exact ⟨rfl, _, Eq.trans (World.drewN_drewN _ _ _) (congrArg (World.drewN _) (Nat.add_assoc _ _ _))⟩))); try go_wp2_with (first | (go_at_call 32; (with_reducible refine (spec_l01Fits.calls (rd l1 0) 2 false _ A13.out).mono ?_); rintro e w' ⟨rfl, ⟨nd, rfl⟩⟩; (try first | exact ⟨rfl, _, World.drewN_drewN _ _ _⟩ | exact ⟨rfl, _, Eq.trans (World.drewN_drewN _ _ _) (congrArg (World.drewN _) (Nat.add_assoc _ _ _))⟩))))
                    go_ret
                    exact ⟨by first | rfl | (simp; done) | (simp [*]; done), by repeat (first | exact Drawn0.refl _ | apply Drawn0.step)⟩
              · rw [if_neg c11] at H
                exact absurd H (by simp)
            · rw [if_neg c10] at H
              have c10b0 : ((l1.length : Int) == 1) = false := beq_eq_false_iff_ne.mpr c10
              have c10b1 : ((l1.length : Int) != 1) = true := bne_iff_ne.mpr c10
              obtain rfl := Option.some.inj H
              go_wp2
              repeat (go_quiet (fail); try go_wp2)
              go_ret
              exact ⟨by first | rfl | (simp; done) | (simp [*]; done), by repeat (first | exact Drawn0.refl _ | apply Drawn0.step)⟩
          · rw [if_neg c9] at H
            have c9b0 : (a0 == 1) = false := beq_eq_false_iff_ne.mpr c9
            have c9b1 : (a0 != 1) = true := bne_iff_ne.mpr c9
            by_cases c15 : a0 = 2
            · rw [if_pos c15] at H
              have c15b0 : (a0 == 2) = true := beq_iff_eq.mpr c15
              have c15b1 : (a0 != 2) = false := bne_eq_false_iff_eq.mpr c15
              clear c15
              by_cases c16 : (l1.length : Int) = 1
              · rw [if_pos c16] at H
                have c16b0 : ((l1.length : Int) == 1) = true := beq_iff_eq.mpr c16
                have c16b1 : ((l1.length : Int) != 1) = false := bne_eq_false_iff_eq.mpr c16
                clear c16
                by_cases c17 : 0 < (l1.length : Int)
                · rw [if_pos c17] at H
                  have c17b0 : decide (0 < (l1.length : Int)) = true := decide_eq_true c17
                  have c17b1 : decide (0 < l1.length) = true := decide_eq_true (by omega)
                  clear c17
                  replace H := Option.bind_eq_some_iff.mp H
                  obtain ⟨t116, A180, H⟩ := H
                  replace H : (if t116 = true then (some 1) else (some (-1))) = some r := H
                  have A18 := Aside0.mk A180
                  clear A180
                  by_cases c19 : t116 = true
                  · subst c19
                    have H1 : (some 1) = some r := by rw [if_pos rfl] at H; exact H
                    clear H
                    have H := H1
                    clear H1
                    obtain rfl := Option.some.inj H
                    have p115 : 0 ≤ (0 : Int) := (by omega)
                    have q115 : 0 < (l1.length : Int) := of_decide_eq_true (by first | (with_reducible assumption) | assumption)
                    obtain ⟨ad115, e115, hx115_0⟩ := Kd.at_int HR1.out 0 p115 q115
                    cases e115
                    have qi115 : (0 < l1.length) = True := eq_true (by omega)
                    (try rw [show ((0 : Int)).toNat = 0 from rfl] at hx115_0)
                    (try rw [Addr.add_zero'] at hx115_0)
                    replace p115 := eq_true p115
                    replace q115 := eq_true q115
                    go_wp2_with (first | (go_at_call 32; (with_reducible refine (spec_l01Fits.calls (rd l1 0) 3 true _ A18.out).mono ?_); rintro e w' ⟨rfl, ⟨nd, rfl⟩⟩; (try first | exact ⟨rfl, _, World.drewN_drewN _ _ _⟩ | exact ⟨rfl, _, Eq.trans (World.drewN_drewN _ _ _) (congrArg (World.drewN _) (Nat.add_assoc _ _ _))⟩)))
                    repeat (go_quiet (first | (go_at_call 32; (with_reducible refine (spec_l01Fits.calls (rd l1 0) 3 true _ A18.out).mono ?_); rintro e w' ⟨rfl, ⟨nd, rfl⟩⟩; (try first | exact ⟨rfl, _, World.drewN_drewN _ _ _⟩ | exact ⟨rfl, _, Eq.trans (World.drewN_drewN _ _ _) (congrArg (World.drewN _) (Nat.add_assoc _ _ _))⟩))); try go_wp2_with (first | (go_at_call 32; (with_reducible refine (spec_l01Fits.calls (rd l1 0) 3 true _ A18.out).mono ?_); rintro e w' ⟨rfl, ⟨nd, rfl⟩⟩; (try first | exact ⟨rfl, _, World.drewN_drewN _ _ _⟩ | exact ⟨rfl, _, Eq.trans (World.drewN_drewN _ _ _) (congrArg (World.drewN _) (Nat.add_assoc _ _ _))⟩))))
                    go_ret
                    exact ⟨by first | rfl | (simp; done) | (simp [*]; done), by repeat (first | exact Drawn0.refl _ | apply Drawn0.step)⟩
                  · replace c19 := Bool.eq_false_iff.mpr c19
                    subst c19
                    have H1 : (some (-1)) = some r := by rw [if_neg (show ¬ (false = true) by decide)] at H; exact H
                    clear H
                    have H := H1
                    clear H1
                    obtain rfl := Option.some.inj H
                    have p115 : 0 ≤ (0 : Int) := (by omega)
                    have q115 : 0 < (l1.length : Int) := of_decide_eq_true (by first | (with_reducible assumption) | assumption)
                    obtain ⟨ad115, e115, hx115_0⟩ := Kd.at_int HR1.out 0 p115 q115
                    cases e115
                    have qi115 : (0 < l1.length) = True := eq_true (by omega)
                    (try rw [show ((0 : Int)).toNat = 0 from rfl] at hx115_0)
                    (try rw [Addr.add_zero'] at hx115_0)
                    replace p115 := eq_true p115
                    replace q115 := eq_true q115
                    go_wp2_with (first | (go_at_call 32; (with_reducible refine (spec_l01Fits.calls (rd l1 0) 3 false _ A18.out).mono ?_); rintro e w' ⟨rfl, ⟨nd, rfl⟩⟩; (try first | exact ⟨rfl, _, World.drewN_drewN _ _ _⟩ | exact ⟨rfl, _, Eq.trans (World.drewN_drewN _ _ _) (congrArg (World.drewN _) (Nat.add_assoc _ _ _))⟩)))
                    repeat (go_quiet (first | (go_at_call 32; (with_reducible refine (spec_l01Fits.calls (rd l1 0) 3 false _ A18.out).mono ?_); rintro e w' ⟨rfl, ⟨nd, rfl⟩⟩; (try first | exact ⟨rfl, _, World.drewN_drewN _ _ _⟩ | exact ⟨rfl, _, Eq.trans (World.drewN_drewN _ _ _) (congrArg (World.drewN _) (Nat.add_assoc _ _ _))⟩))); try go_wp2_with (first | (go_at_call 32; (with_reducible refine (spec_l01Fits.calls (rd l1 0) 3 false _ A18.out).mono ?_); rintro e w' ⟨rfl, ⟨nd, rfl⟩⟩; (try first | exact ⟨rfl, _, World.drewN_drewN _ _ _⟩ | exact ⟨rfl, _, Eq.trans (World.drewN_drewN _ _ _) (congrArg (World.drewN _) (Nat.add_assoc _ _ _))⟩))))
                    go_ret
                    exact ⟨by first | rfl | (simp; done) | (simp [*]; done), by repeat (first | exact Drawn0.refl _ | apply Drawn0.step)⟩
                · rw [if_neg c17] at H
                  exact absurd H (by simp)
              · rw [if_neg c16] at H
                have c16b0 : ((l1.length : Int) == 1) = false := beq_eq_false_iff_ne.mpr c16
                have c16b1 : ((l1.length : Int) != 1) = true := bne_iff_ne.mpr c16
                obtain rfl := Option.some.inj H
                go_wp2
                repeat (go_quiet (fail); try go_wp2)
                go_ret
                exact ⟨by first | rfl | (simp; done) | (simp [*]; done), by repeat (first | exact Drawn0.refl _ | apply Drawn0.step)⟩
            · rw [if_neg c15] at H
              have c15b0 : (a0 == 2) = false := beq_eq_false_iff_ne.mpr c15
              have c15b1 : (a0 != 2) = true := bne_iff_ne.mpr c15
              have HC20 := Aside0.mk H
              clear H
              go_upto_if 53 with (fail)
              repeat (go_quiet (fail); go_upto_if 53 with (fail))
              go_cut [53] (fun v53 wc => ∃ (kq : Nat) (x53_19 : Bool), v53 = .bool x53_19 ∧ Aside0 (spec_CallKind.j1 kq l1 (l1.length : Int) a0 x53_19 = some r) ∧ Aside0 (kq ≤ k1) ∧ Drawn0 w wc)
              case first =>
                have H := HC20.out
                clear HC20
                by_cases c21 : a0 = 3
                · rw [if_pos c21] at H
                  have c21b0 : (a0 == 3) = true := beq_iff_eq.mpr c21
                  have c21b1 : (a0 != 3) = false := bne_eq_false_iff_eq.mpr c21
                  clear c21
                  (first | rw [c21b0] | (simp only [i64_w, i32_w]; rw [c21b0]) | skip)
                  have H' := Aside0.mk H
                  clear H
                  go_wp2
                  repeat (go_quiet (fail); try go_wp2)
                  go_meet
                  case rel => exact ⟨_, ((a0 == 3)), (by first | rfl | (simp; done) | (simp [*]; done)), H', ⟨by have := HK1.out; first | omega | exact Nat.le_refl _⟩, by repeat (first | exact Drawn0.refl _ | apply Drawn0.step)⟩
                · rw [if_neg c21] at H
                  have c21b0 : (a0 == 3) = false := beq_eq_false_iff_ne.mpr c21
                  have c21b1 : (a0 != 3) = true := bne_iff_ne.mpr c21
                  (first | rw [c21b0] | (simp only [i64_w, i32_w]; rw [c21b0]) | skip)
                  by_cases c22 : a0 = 4
                  · rw [if_pos c22] at H
                    have c22b0 : (a0 == 4) = true := beq_iff_eq.mpr c22
                    have c22b1 : (a0 != 4) = false := bne_eq_false_iff_eq.mpr c22
                    clear c22
                    have H' := Aside0.mk H
                    clear H
                    go_wp2
                    repeat (go_quiet (fail); try go_wp2)
                    go_meet
                    case rel => exact ⟨_, ((a0 == 4)), (by first | rfl | (simp; done) | (simp [*]; done)), H', ⟨by have := HK1.out; first | omega | exact Nat.le_refl _⟩, by repeat (first | exact Drawn0.refl _ | apply Drawn0.step)⟩
                  · rw [if_neg c22] at H
                    have c22b0 : (a0 == 4) = false := beq_eq_false_iff_ne.mpr c22
                    have c22b1 : (a0 != 4) = true := bne_iff_ne.mpr c22
                    have H' := Aside0.mk H
                    clear H
                    go_wp2
                    repeat (go_quiet (fail); try go_wp2)
                    go_meet
                    case rel => exact ⟨_, ((a0 == 11)), (by first | rfl | (simp; done) | (simp [*]; done)), H', ⟨by have := HK1.out; first | omega | exact Nat.le_refl _⟩, by repeat (first | exact Drawn0.refl _ | apply Drawn0.step)⟩
              case rest =>
                clear HC20
                try clear c1
                try clear p1
                try clear q1
                try clear hx1
                try clear qi1
                try clear c2
                try clear p2
                try clear c3
                try clear c3b0
                try clear c3b1
                try clear c4
                try clear c4b0
                try clear c5
                try clear c5b0
                try clear c6
                try clear c6b0
                try clear p6
                try clear c8
                try clear c9
                try clear c9b0
                try clear c9b1
                try clear c10
                try clear c10b0
                try clear c10b1
                try clear p10
                try clear q10
                try clear hx10
                try clear c11
                try clear c11b0
                try clear c11b1
                try clear p11
                try clear q11
                try clear hx11
                try clear qi11
                try clear c12
                try clear c12b0
                try clear c12b1
                try clear c14
                try clear c15
                try clear c15b0
                try clear c15b1
                try clear c16
                try clear c16b0
                try clear c16b1
                try clear c17
                try clear c17b0
                try clear c17b1
                try clear c19
                try clear c21
                try clear c21b0
                try clear c21b1
                try clear c22
                try clear c22b0
                try clear c22b1
                try clear hx108_0
                try clear hx110_0
                try clear hx111_0
                try clear hx112_0
                try clear hx114_0
                try clear hx115_0
                try clear p108
                try clear p110
                try clear p111
                try clear p112
                try clear p114
                try clear p115
                try clear p2
                try clear q108
                try clear q110
                try clear q111
                try clear q112
                try clear q114
                try clear q115
                obtain ⟨kq, x53_19, rfl, HA, HJ19, ⟨mc19, rfl⟩⟩ := hcut
                cases kq with
                | zero => exact absurd HA.out (by simp [spec_CallKind.j1])
                | succ kj19 =>
                  have H := HA.out
                  clear HA
                  simp only [spec_CallKind.j1] at H
                  by_cases c23 : x53_19 = true
                  · subst c23
                    have H1 : (if (l1.length : Int) = 1 then (if 0 < (l1.length : Int) then ((spec_l01Fits.f (rd l1 0) 3).bind fun t118 => (if t118 = true then (some 3) else (some (-1)))) else (none)) else (some (-1))) = some r := by rw [if_pos rfl] at H; exact H
                    clear H
                    have H := H1
                    clear H1
                    by_cases c24 : (l1.length : Int) = 1
                    · rw [if_pos c24] at H
                      have c24b0 : ((l1.length : Int) == 1) = true := beq_iff_eq.mpr c24
                      have c24b1 : ((l1.length : Int) != 1) = false := bne_eq_false_iff_eq.mpr c24
                      clear c24
                      by_cases c25 : 0 < (l1.length : Int)
                      · rw [if_pos c25] at H
                        have c25b0 : decide (0 < (l1.length : Int)) = true := decide_eq_true c25
                        have c25b1 : decide (0 < l1.length) = true := decide_eq_true (by omega)
                        clear c25
                        replace H := Option.bind_eq_some_iff.mp H
                        obtain ⟨t118, A260, H⟩ := H
                        replace H : (if t118 = true then (some 3) else (some (-1))) = some r := H
                        have A26 := Aside0.mk A260
                        clear A260
                        by_cases c27 : t118 = true
                        · subst c27
                          have H1 : (some 3) = some r := by rw [if_pos rfl] at H; exact H
                          clear H
                          have H := H1
                          clear H1
                          obtain rfl := Option.some.inj H
                          have p117 : 0 ≤ (0 : Int) := (by omega)
                          have q117 : 0 < (l1.length : Int) := of_decide_eq_true (by first | (with_reducible assumption) | assumption)
                          obtain ⟨ad117, e117, hx117_0⟩ := Kd.at_int HR1.out 0 p117 q117
                          cases e117
                          have qi117 : (0 < l1.length) = True := eq_true (by omega)
                          (try rw [show ((0 : Int)).toNat = 0 from rfl] at hx117_0)
                          (try rw [Addr.add_zero'] at hx117_0)
                          replace p117 := eq_true p117
                          replace q117 := eq_true q117
                          go_wp2_with (first | (go_at_call 32; (with_reducible refine (spec_l01Fits.calls (rd l1 0) 3 true _ A26.out).mono ?_); rintro e w' ⟨rfl, ⟨nd, rfl⟩⟩; (try first | exact ⟨rfl, _, World.drewN_drewN _ _ _⟩ | exact ⟨rfl, _, Eq.trans (World.drewN_drewN _ _ _) (congrArg (World.drewN _) (Nat.add_assoc _ _ _))⟩)))
                          repeat (go_quiet (first | (go_at_call 32; (with_reducible refine (spec_l01Fits.calls (rd l1 0) 3 true _ A26.out).mono ?_); rintro e w' ⟨rfl, ⟨nd, rfl⟩⟩; (try first | exact ⟨rfl, _, World.drewN_drewN _ _ _⟩ | exact ⟨rfl, _, Eq.trans (World.drewN_drewN _ _ _) (congrArg (World.drewN _) (Nat.add_assoc _ _ _))⟩))); try go_wp2_with (first | (go_at_call 32; (with_reducible refine (spec_l01Fits.calls (rd l1 0) 3 true _ A26.out).mono ?_); rintro e w' ⟨rfl, ⟨nd, rfl⟩⟩; (try first | exact ⟨rfl, _, World.drewN_drewN _ _ _⟩ | exact ⟨rfl, _, Eq.trans (World.drewN_drewN _ _ _) (congrArg (World.drewN _) (Nat.add_assoc _ _ _))⟩))))
                          go_ret
                          exact ⟨by first | rfl | (simp; done) | (simp [*]; done), by repeat (first | exact Drawn0.refl _ | apply Drawn0.step)⟩
                        · replace c27 := Bool.eq_false_iff.mpr c27
                          subst c27
                          have H1 : (some (-1)) = some r := by rw [if_neg (show ¬ (false = true) by decide)] at H; exact H
                          clear H
                          have H := H1
                          clear H1
                          obtain rfl := Option.some.inj H
                          have p117 : 0 ≤ (0 : Int) := (by omega)
                          have q117 : 0 < (l1.length : Int) := of_decide_eq_true (by first | (with_reducible assumption) | assumption)
                          obtain ⟨ad117, e117, hx117_0⟩ := Kd.at_int HR1.out 0 p117 q117
                          cases e117
                          have qi117 : (0 < l1.length) = True := eq_true (by omega)
                          (try rw [show ((0 : Int)).toNat = 0 from rfl] at hx117_0)
                          (try rw [Addr.add_zero'] at hx117_0)
                          replace p117 := eq_true p117
                          replace q117 := eq_true q117
                          go_wp2_with (first | (go_at_call 32; (with_reducible refine (spec_l01Fits.calls (rd l1 0) 3 false _ A26.out).mono ?_); rintro e w' ⟨rfl, ⟨nd, rfl⟩⟩; (try first | exact ⟨rfl, _, World.drewN_drewN _ _ _⟩ | exact ⟨rfl, _, Eq.trans (World.drewN_drewN _ _ _) (congrArg (World.drewN _) (Nat.add_assoc _ _ _))⟩)))
                          repeat (go_quiet (first | (go_at_call 32; (with_reducible refine (spec_l01Fits.calls (rd l1 0) 3 false _ A26.out).mono ?_); rintro e w' ⟨rfl, ⟨nd, rfl⟩⟩; (try first | exact ⟨rfl, _, World.drewN_drewN _ _ _⟩ | exact ⟨rfl, _, Eq.trans (World.drewN_drewN _ _ _) (congrArg (World.drewN _) (Nat.add_assoc _ _ _))⟩))); try go_wp2_with (first | (go_at_call 32; (with_reducible refine (spec_l01Fits.calls (rd l1 0) 3 false _ A26.out).mono ?_); rintro e w' ⟨rfl, ⟨nd, rfl⟩⟩; (try first | exact ⟨rfl, _, World.drewN_drewN _ _ _⟩ | exact ⟨rfl, _, Eq.trans (World.drewN_drewN _ _ _) (congrArg (World.drewN _) (Nat.add_assoc _ _ _))⟩))))
                          go_ret
                          exact ⟨by first | rfl | (simp; done) | (simp [*]; done), by repeat (first | exact Drawn0.refl _ | apply Drawn0.step)⟩
                      · rw [if_neg c25] at H
                        exact absurd H (by simp)
                    · rw [if_neg c24] at H
                      have c24b0 : ((l1.length : Int) == 1) = false := beq_eq_false_iff_ne.mpr c24
                      have c24b1 : ((l1.length : Int) != 1) = true := bne_iff_ne.mpr c24
                      obtain rfl := Option.some.inj H
                      go_wp2
                      repeat (go_quiet (fail); try go_wp2)
                      go_ret
                      exact ⟨by first | rfl | (simp; done) | (simp [*]; done), by repeat (first | exact Drawn0.refl _ | apply Drawn0.step)⟩
                  · replace c23 := Bool.eq_false_iff.mpr c23
                    subst c23
                    have H1 : (if a0 = 5 then (if (l1.length : Int) = 3 then (if 0 < (l1.length : Int) then ((spec_l01Fits.f (rd l1 0) 3).bind fun t120 => (if t120 = true then (if 1 < (l1.length : Int) then ((spec_l01Fits.f (rd l1 1) 1).bind fun t122 => (if t122 = true then (if 2 < (l1.length : Int) then ((spec_l01Fits.f (rd l1 2) 1).bind fun t124 => (if t124 = true then (some 3) else (some (-1)))) else (none)) else (some (-1)))) else (none)) else (some (-1)))) else (none)) else (some (-1))) else (if a0 = 6 then (if (l1.length : Int) = 2 then (if 0 < (l1.length : Int) then (if 1 < (l1.length : Int) then ((spec_OpKind.f kj19 7 (rd l1 0) (rd l1 1)).bind fun t127 => (if t127 ≥ 0 then (some (rd l1 0)) else (some (-1)))) else (none)) else (none)) else (some (-1))) else (if a0 = 7 then (spec_CallKind.j2 kj19 l1 (l1.length : Int) a0 (a0 == 7)) else (if a0 = 8 then (spec_CallKind.j2 kj19 l1 (l1.length : Int) a0 (a0 == 8)) else (spec_CallKind.j2 kj19 l1 (l1.length : Int) a0 (a0 == 9)))))) = some r := by rw [if_neg (show ¬ (false = true) by decide)] at H; exact H
                    clear H
                    have H := H1
                    clear H1
                    by_cases c28 : a0 = 5
                    · rw [if_pos c28] at H
                      have c28b0 : (a0 == 5) = true := beq_iff_eq.mpr c28
                      have c28b1 : (a0 != 5) = false := bne_eq_false_iff_eq.mpr c28
                      clear c28
                      by_cases c29 : (l1.length : Int) = 3
                      · rw [if_pos c29] at H
                        have c29b0 : ((l1.length : Int) == 3) = true := beq_iff_eq.mpr c29
                        have c29b1 : ((l1.length : Int) != 3) = false := bne_eq_false_iff_eq.mpr c29
                        clear c29
                        by_cases c30 : 0 < (l1.length : Int)
                        · rw [if_pos c30] at H
                          have c30b0 : decide (0 < (l1.length : Int)) = true := decide_eq_true c30
                          have c30b1 : decide (0 < l1.length) = true := decide_eq_true (by omega)
                          clear c30
                          replace H := Option.bind_eq_some_iff.mp H
                          obtain ⟨t120, A310, H⟩ := H
                          replace H : (if t120 = true then (if 1 < (l1.length : Int) then ((spec_l01Fits.f (rd l1 1) 1).bind fun t122 => (if t122 = true then (if 2 < (l1.length : Int) then ((spec_l01Fits.f (rd l1 2) 1).bind fun t124 => (if t124 = true then (some 3) else (some (-1)))) else (none)) else (some (-1)))) else (none)) else (some (-1))) = some r := H
                          have A31 := Aside0.mk A310
                          clear A310
                          by_cases c32 : t120 = true
                          · subst c32
                            have H1 : (if 1 < (l1.length : Int) then ((spec_l01Fits.f (rd l1 1) 1).bind fun t122 => (if t122 = true then (if 2 < (l1.length : Int) then ((spec_l01Fits.f (rd l1 2) 1).bind fun t124 => (if t124 = true then (some 3) else (some (-1)))) else (none)) else (some (-1)))) else (none)) = some r := by rw [if_pos rfl] at H; exact H
                            clear H
                            have H := H1
                            clear H1
                            by_cases c33 : 1 < (l1.length : Int)
                            · rw [if_pos c33] at H
                              have c33b0 : decide (1 < (l1.length : Int)) = true := decide_eq_true c33
                              have c33b1 : decide (1 < l1.length) = true := decide_eq_true (by omega)
                              clear c33
                              replace H := Option.bind_eq_some_iff.mp H
                              obtain ⟨t122, A340, H⟩ := H
                              replace H : (if t122 = true then (if 2 < (l1.length : Int) then ((spec_l01Fits.f (rd l1 2) 1).bind fun t124 => (if t124 = true then (some 3) else (some (-1)))) else (none)) else (some (-1))) = some r := H
                              have A34 := Aside0.mk A340
                              clear A340
                              by_cases c35 : t122 = true
                              · subst c35
                                have H1 : (if 2 < (l1.length : Int) then ((spec_l01Fits.f (rd l1 2) 1).bind fun t124 => (if t124 = true then (some 3) else (some (-1)))) else (none)) = some r := by rw [if_pos rfl] at H; exact H
                                clear H
                                have H := H1
                                clear H1
                                by_cases c36 : 2 < (l1.length : Int)
                                · rw [if_pos c36] at H
                                  have c36b0 : decide (2 < (l1.length : Int)) = true := decide_eq_true c36
                                  have c36b1 : decide (2 < l1.length) = true := decide_eq_true (by omega)
                                  clear c36
                                  replace H := Option.bind_eq_some_iff.mp H
                                  obtain ⟨t124, A370, H⟩ := H
                                  replace H : (if t124 = true then (some 3) else (some (-1))) = some r := H
                                  have A37 := Aside0.mk A370
                                  clear A370
                                  by_cases c38 : t124 = true
                                  · subst c38
                                    have H1 : (some 3) = some r := by rw [if_pos rfl] at H; exact H
                                    clear H
                                    have H := H1
                                    clear H1
                                    obtain rfl := Option.some.inj H
                                    have p119 : 0 ≤ (0 : Int) := (by omega)
                                    have q119 : 0 < (l1.length : Int) := of_decide_eq_true (by first | (with_reducible assumption) | assumption)
                                    obtain ⟨ad119, e119, hx119_0⟩ := Kd.at_int HR1.out 0 p119 q119
                                    cases e119
                                    have qi119 : (0 < l1.length) = True := eq_true (by omega)
                                    (try rw [show ((0 : Int)).toNat = 0 from rfl] at hx119_0)
                                    (try rw [Addr.add_zero'] at hx119_0)
                                    replace p119 := eq_true p119
                                    replace q119 := eq_true q119
                                    go_wp2_with (first | (go_at_call 32; (with_reducible refine (spec_l01Fits.calls (rd l1 0) 3 true _ A31.out).mono ?_); rintro e w' ⟨rfl, ⟨nd, rfl⟩⟩; (try first | exact ⟨rfl, _, World.drewN_drewN _ _ _⟩ | exact ⟨rfl, _, Eq.trans (World.drewN_drewN _ _ _) (congrArg (World.drewN _) (Nat.add_assoc _ _ _))⟩); have p121 : 0 ≤ (1 : Int) := (by omega); have q121 : 1 < (l1.length : Int) := of_decide_eq_true (by first | (with_reducible assumption) | assumption); obtain ⟨ad121, e121, hx121_0⟩ := Kd.at_int HR1.out 1 p121 q121; obtain rfl : ad119 = ad121 := (by injection e121); (try simp only [show (1 : Int).toNat = 1 from rfl, Nat.reduceMul, Nat.reduceEqDiff, Go.Addr.add, ↓reduceIte] at hx121_0); have qi121 : (1 < l1.length) = True := eq_true (by omega); (try rw [show ((1 : Int)).toNat = 1 from rfl] at hx121_0); replace p121 := eq_true p121; replace q121 := eq_true q121) | (go_at_call 32; (with_reducible refine (spec_l01Fits.calls (rd l1 1) 1 true _ A34.out).mono ?_); rintro e w' ⟨rfl, ⟨nd, rfl⟩⟩; (try first | exact ⟨rfl, _, World.drewN_drewN _ _ _⟩ | exact ⟨rfl, _, Eq.trans (World.drewN_drewN _ _ _) (congrArg (World.drewN _) (Nat.add_assoc _ _ _))⟩); have p123 : 0 ≤ (2 : Int) := (by omega); have q123 : 2 < (l1.length : Int) := of_decide_eq_true (by first | (with_reducible assumption) | assumption); obtain ⟨ad123, e123, hx123_0⟩ := Kd.at_int HR1.out 2 p123 q123; obtain rfl : ad119 = ad123 := (by injection e123); (try simp only [show (2 : Int).toNat = 2 from rfl, Nat.reduceMul, Nat.reduceEqDiff, Go.Addr.add, ↓reduceIte] at hx123_0); have qi123 : (2 < l1.length) = True := eq_true (by omega); (try rw [show ((2 : Int)).toNat = 2 from rfl] at hx123_0); replace p123 := eq_true p123; replace q123 := eq_true q123) | (go_at_call 32; (with_reducible refine (spec_l01Fits.calls (rd l1 2) 1 true _ A37.out).mono ?_); rintro e w' ⟨rfl, ⟨nd, rfl⟩⟩; (try first | exact ⟨rfl, _, World.drewN_drewN _ _ _⟩ | exact ⟨rfl, _, Eq.trans (World.drewN_drewN _ _ _) (congrArg (World.drewN _) (Nat.add_assoc _ _ _))⟩)))
                                    repeat (go_quiet (first | (go_at_call 32; (with_reducible refine (spec_l01Fits.calls (rd l1 0) 3 true _ A31.out).mono ?_); rintro e w' ⟨rfl, ⟨nd, rfl⟩⟩; (try first | exact ⟨rfl, _, World.drewN_drewN _ _ _⟩ | exact ⟨rfl, _, Eq.trans (World.drewN_drewN _ _ _) (congrArg (World.drewN _) (Nat.add_assoc _ _ _))⟩); have p121 : 0 ≤ (1 : Int) := (by omega); have q121 : 1 < (l1.length : Int) := of_decide_eq_true (by first | (with_reducible assumption) | assumption); obtain ⟨ad121, e121, hx121_0⟩ := Kd.at_int HR1.out 1 p121 q121; obtain rfl : ad119 = ad121 := (by injection e121); (try simp only [show (1 : Int).toNat = 1 from rfl, Nat.reduceMul, Nat.reduceEqDiff, Go.Addr.add, ↓reduceIte] at hx121_0); have qi121 : (1 < l1.length) = True := eq_true (by omega); (try rw [show ((1 : Int)).toNat = 1 from rfl] at hx121_0); replace p121 := eq_true p121; replace q121 := eq_true q121) | (go_at_call 32; (with_reducible refine (spec_l01Fits.calls (rd l1 1) 1 true _ A34.out).mono ?_); rintro e w' ⟨rfl, ⟨nd, rfl⟩⟩; (try first | exact ⟨rfl, _, World.drewN_drewN _ _ _⟩ | exact ⟨rfl, _, Eq.trans (World.drewN_drewN _ _ _) (congrArg (World.drewN _) (Nat.add_assoc _ _ _))⟩); have p123 : 0 ≤ (2 : Int) := (by omega); have q123 : 2 < (l1.length : Int) := of_decide_eq_true (by first | (with_reducible assumption) | assumption); obtain ⟨ad123, e123, hx123_0⟩ := Kd.at_int HR1.out 2 p123 q123; obtain rfl : ad119 = ad123 := (by injection e123); (try simp only [show (2 : Int).toNat = 2 from rfl, Nat.reduceMul, Nat.reduceEqDiff, Go.Addr.add, ↓reduceIte] at hx123_0); have qi123 : (2 < l1.length) = True := eq_true (by omega); (try rw [show ((2 : Int)).toNat = 2 from rfl] at hx123_0); replace p123 := eq_true p123; replace q123 := eq_true q123) | (go_at_call 32; (with_reducible refine (spec_l01Fits.calls (rd l1 2) 1 true _ A37.out).mono ?_); rintro e w' ⟨rfl, ⟨nd, rfl⟩⟩; (try first | exact ⟨rfl, _, World.drewN_drewN _ _ _⟩ | exact ⟨rfl, _, Eq.trans (World.drewN_drewN _ _ _) (congrArg (World.drewN _) (Nat.add_assoc _ _ _))⟩))); try go_wp2_with (first | (go_at_call 32; (with_reducible refine (spec_l01Fits.calls (rd l1 0) 3 true _ A31.out).mono ?_); rintro e w' ⟨rfl, ⟨nd, rfl⟩⟩; (try first | exact ⟨rfl, _, World.drewN_drewN _ _ _⟩ | exact ⟨rfl, _, Eq.trans (World.drewN_drewN _ _ _) (congrArg (World.drewN _) (Nat.add_assoc _ _ _))⟩); have p121 : 0 ≤ (1 : Int) := (by omega); have q121 : 1 < (l1.length : Int) := of_decide_eq_true (by first | (with_reducible assumption) | assumption); obtain ⟨ad121, e121, hx121_0⟩ := Kd.at_int HR1.out 1 p121 q121; obtain rfl : ad119 = ad121 := (by injection e121); (try simp only [show (1 : Int).toNat = 1 from rfl, Nat.reduceMul, Nat.reduceEqDiff, Go.Addr.add, ↓reduceIte] at hx121_0); have qi121 : (1 < l1.length) = True := eq_true (by omega); (try rw [show ((1 : Int)).toNat = 1 from rfl] at hx121_0); replace p121 := eq_true p121; replace q121 := eq_true q121) | (go_at_call 32; (with_reducible refine (spec_l01Fits.calls (rd l1 1) 1 true _ A34.out).mono ?_); rintro e w' ⟨rfl, ⟨nd, rfl⟩⟩; (try first | exact ⟨rfl, _, World.drewN_drewN _ _ _⟩ | exact ⟨rfl, _, Eq.trans (World.drewN_drewN _ _ _) (congrArg (World.drewN _) (Nat.add_assoc _ _ _))⟩); have p123 : 0 ≤ (2 : Int) := (by omega); have q123 : 2 < (l1.length : Int) := of_decide_eq_true (by first | (with_reducible assumption) | assumption); obtain ⟨ad123, e123, hx123_0⟩ := Kd.at_int HR1.out 2 p123 q123; obtain rfl : ad119 = ad123 := (by injection e123); (try simp only [show (2 : Int).toNat = 2 from rfl, Nat.reduceMul, Nat.reduceEqDiff, Go.Addr.add, ↓reduceIte] at hx123_0); have qi123 : (2 < l1.length) = True := eq_true (by omega); (try rw [show ((2 : Int)).toNat = 2 from rfl] at hx123_0); replace p123 := eq_true p123; replace q123 := eq_true q123) | (go_at_call 32; (with_reducible refine (spec_l01Fits.calls (rd l1 2) 1 true _ A37.out).mono ?_); rintro e w' ⟨rfl, ⟨nd, rfl⟩⟩; (try first | exact ⟨rfl, _, World.drewN_drewN _ _ _⟩ | exact ⟨rfl, _, Eq.trans (World.drewN_drewN _ _ _) (congrArg (World.drewN _) (Nat.add_assoc _ _ _))⟩))))
                                    go_ret
                                    exact ⟨by first | rfl | (simp; done) | (simp [*]; done), by repeat (first | exact Drawn0.refl _ | apply Drawn0.step)⟩
                                  · replace c38 := Bool.eq_false_iff.mpr c38
                                    subst c38
                                    have H1 : (some (-1)) = some r := by rw [if_neg (show ¬ (false = true) by decide)] at H; exact H
                                    clear H
                                    have H := H1
                                    clear H1
                                    obtain rfl := Option.some.inj H
                                    have p119 : 0 ≤ (0 : Int) := (by omega)
                                    have q119 : 0 < (l1.length : Int) := of_decide_eq_true (by first | (with_reducible assumption) | assumption)
                                    obtain ⟨ad119, e119, hx119_0⟩ := Kd.at_int HR1.out 0 p119 q119
                                    cases e119
                                    have qi119 : (0 < l1.length) = True := eq_true (by omega)
                                    (try rw [show ((0 : Int)).toNat = 0 from rfl] at hx119_0)
                                    (try rw [Addr.add_zero'] at hx119_0)
                                    replace p119 := eq_true p119
                                    replace q119 := eq_true q119
                                    go_wp2_with (first | (go_at_call 32; (with_reducible refine (spec_l01Fits.calls (rd l1 0) 3 true _ A31.out).mono ?_); rintro e w' ⟨rfl, ⟨nd, rfl⟩⟩; (try first | exact ⟨rfl, _, World.drewN_drewN _ _ _⟩ | exact ⟨rfl, _, Eq.trans (World.drewN_drewN _ _ _) (congrArg (World.drewN _) (Nat.add_assoc _ _ _))⟩); have p121 : 0 ≤ (1 : Int) := (by omega); have q121 : 1 < (l1.length : Int) := of_decide_eq_true (by first | (with_reducible assumption) | assumption); obtain ⟨ad121, e121, hx121_0⟩ := Kd.at_int HR1.out 1 p121 q121; obtain rfl : ad119 = ad121 := (by injection e121); (try simp only [show (1 : Int).toNat = 1 from rfl, Nat.reduceMul, Nat.reduceEqDiff, Go.Addr.add, ↓reduceIte] at hx121_0); have qi121 : (1 < l1.length) = True := eq_true (by omega); (try rw [show ((1 : Int)).toNat = 1 from rfl] at hx121_0); replace p121 := eq_true p121; replace q121 := eq_true q121) | (go_at_call 32; (with_reducible refine (spec_l01Fits.calls (rd l1 1) 1 true _ A34.out).mono ?_); rintro e w' ⟨rfl, ⟨nd, rfl⟩⟩; (try first | exact ⟨rfl, _, World.drewN_drewN _ _ _⟩ | exact ⟨rfl, _, Eq.trans (World.drewN_drewN _ _ _) (congrArg (World.drewN _) (Nat.add_assoc _ _ _))⟩); have p123 : 0 ≤ (2 : Int) := (by omega); have q123 : 2 < (l1.length : Int) := of_decide_eq_true (by first | (with_reducible assumption) | assumption); obtain ⟨ad123, e123, hx123_0⟩ := Kd.at_int HR1.out 2 p123 q123; obtain rfl : ad119 = ad123 := (by injection e123); (try simp only [show (2 : Int).toNat = 2 from rfl, Nat.reduceMul, Nat.reduceEqDiff, Go.Addr.add, ↓reduceIte] at hx123_0); have qi123 : (2 < l1.length) = True := eq_true (by omega); (try rw [show ((2 : Int)).toNat = 2 from rfl] at hx123_0); replace p123 := eq_true p123; replace q123 := eq_true q123) | (go_at_call 32; (with_reducible refine (spec_l01Fits.calls (rd l1 2) 1 false _ A37.out).mono ?_); rintro e w' ⟨rfl, ⟨nd, rfl⟩⟩; (try first | exact ⟨rfl, _, World.drewN_drewN _ _ _⟩ | exact ⟨rfl, _, Eq.trans (World.drewN_drewN _ _ _) (congrArg (World.drewN _) (Nat.add_assoc _ _ _))⟩)))
                                    repeat (go_quiet (first | (go_at_call 32; (with_reducible refine (spec_l01Fits.calls (rd l1 0) 3 true _ A31.out).mono ?_); rintro e w' ⟨rfl, ⟨nd, rfl⟩⟩; (try first | exact ⟨rfl, _, World.drewN_drewN _ _ _⟩ | exact ⟨rfl, _, Eq.trans (World.drewN_drewN _ _ _) (congrArg (World.drewN _) (Nat.add_assoc _ _ _))⟩); have p121 : 0 ≤ (1 : Int) := (by omega); have q121 : 1 < (l1.length : Int) := of_decide_eq_true (by first | (with_reducible assumption) | assumption); obtain ⟨ad121, e121, hx121_0⟩ := Kd.at_int HR1.out 1 p121 q121; obtain rfl : ad119 = ad121 := (by injection e121); (try simp only [show (1 : Int).toNat = 1 from rfl, Nat.reduceMul, Nat.reduceEqDiff, Go.Addr.add, ↓reduceIte] at hx121_0); have qi121 : (1 < l1.length) = True := eq_true (by omega); (try rw [show ((1 : Int)).toNat = 1 from rfl] at hx121_0); replace p121 := eq_true p121; replace q121 := eq_true q121) | (go_at_call 32; (with_reducible refine (spec_l01Fits.calls (rd l1 1) 1 true _ A34.out).mono ?_); rintro e w' ⟨rfl, ⟨nd, rfl⟩⟩; (try first | exact ⟨rfl, _, World.drewN_drewN _ _ _⟩ | exact ⟨rfl, _, Eq.trans (World.drewN_drewN _ _ _) (congrArg (World.drewN _) (Nat.add_assoc _ _ _))⟩); have p123 : 0 ≤ (2 : Int) := (by omega); have q123 : 2 < (l1.length : Int) := of_decide_eq_true (by first | (with_reducible assumption) | assumption); obtain ⟨ad123, e123, hx123_0⟩ := Kd.at_int HR1.out 2 p123 q123; obtain rfl : ad119 = ad123 := (by injection e123); (try simp only [show (2 : Int).toNat = 2 from rfl, Nat.reduceMul, Nat.reduceEqDiff, Go.Addr.add, ↓reduceIte] at hx123_0); have qi123 : (2 < l1.length) = True := eq_true (by omega); (try rw [show ((2 : Int)).toNat = 2 from rfl] at hx123_0); replace p123 := eq_true p123; replace q123 := eq_true q123) | (go_at_call 32; (with_reducible refine (spec_l01Fits.calls (rd l1 2) 1 false _ A37.out).mono ?_); rintro e w' ⟨rfl, ⟨nd, rfl⟩⟩; (try first | exact ⟨rfl, _, World.drewN_drewN _ _ _⟩ | exact ⟨rfl, _, Eq.trans (World.drewN_drewN _ _ _) (congrArg (World.drewN _) (Nat.add_assoc _ _ _))⟩))); try go_wp2_with (first | (go_at_call 32; (with_reducible refine (spec_l01Fits.calls (rd l1 0) 3 true _ A31.out).mono ?_); rintro e w' ⟨rfl, ⟨nd, rfl⟩⟩; (try first | exact ⟨rfl, _, World.drewN_drewN _ _ _⟩ | exact ⟨rfl, _, Eq.trans (World.drewN_drewN _ _ _) (congrArg (World.drewN _) (Nat.add_assoc _ _ _))⟩); have p121 : 0 ≤ (1 : Int) := (by omega); have q121 : 1 < (l1.length : Int) := of_decide_eq_true (by first | (with_reducible assumption) | assumption); obtain ⟨ad121, e121, hx121_0⟩ := Kd.at_int HR1.out 1 p121 q121; obtain rfl : ad119 = ad121 := (by injection e121); (try simp only [show (1 : Int).toNat = 1 from rfl, Nat.reduceMul, Nat.reduceEqDiff, Go.Addr.add, ↓reduceIte] at hx121_0); have qi121 : (1 < l1.length) = True := eq_true (by omega); (try rw [show ((1 : Int)).toNat = 1 from rfl] at hx121_0); replace p121 := eq_true p121; replace q121 := eq_true q121) | (go_at_call 32; (with_reducible refine (spec_l01Fits.calls (rd l1 1) 1 true _ A34.out).mono ?_); rintro e w' ⟨rfl, ⟨nd, rfl⟩⟩; (try first | exact ⟨rfl, _, World.drewN_drewN _ _ _⟩ | exact ⟨rfl, _, Eq.trans (World.drewN_drewN _ _ _) (congrArg (World.drewN _) (Nat.add_assoc _ _ _))⟩); have p123 : 0 ≤ (2 : Int) := (by omega); have q123 : 2 < (l1.length : Int) := of_decide_eq_true (by first | (with_reducible assumption) | assumption); obtain ⟨ad123, e123, hx123_0⟩ := Kd.at_int HR1.out 2 p123 q123; obtain rfl : ad119 = ad123 := (by injection e123); (try simp only [show (2 : Int).toNat = 2 from rfl, Nat.reduceMul, Nat.reduceEqDiff, Go.Addr.add, ↓reduceIte] at hx123_0); have qi123 : (2 < l1.length) = True := eq_true (by omega); (try rw [show ((2 : Int)).toNat = 2 from rfl] at hx123_0); replace p123 := eq_true p123; replace q123 := eq_true q123) | (go_at_call 32; (with_reducible refine (spec_l01Fits.calls (rd l1 2) 1 false _ A37.out).mono ?_); rintro e w' ⟨rfl, ⟨nd, rfl⟩⟩; (try first | exact ⟨rfl, _, World.drewN_drewN _ _ _⟩ | exact ⟨rfl, _, Eq.trans (World.drewN_drewN _ _ _) (congrArg (World.drewN _) (Nat.add_assoc _ _ _))⟩))))
                                    go_ret
                                    exact ⟨by first | rfl | (simp; done) | (simp [*]; done), by repeat (first | exact Drawn0.refl _ | apply Drawn0.step)⟩
                                · rw [if_neg c36] at H
                                  exact absurd H (by simp)
                              · replace c35 := Bool.eq_false_iff.mpr c35
                                subst c35
                                have H1 : (some (-1)) = some r := by rw [if_neg (show ¬ (false = true) by decide)] at H; exact H
                                clear H
                                have H := H1
                                clear H1
                                obtain rfl := Option.some.inj H
                                have p119 : 0 ≤ (0 : Int) := (by omega)
                                have q119 : 0 < (l1.length : Int) := of_decide_eq_true (by first | (with_reducible assumption) | assumption)
                                obtain ⟨ad119, e119, hx119_0⟩ := Kd.at_int HR1.out 0 p119 q119
                                cases e119
                                have qi119 : (0 < l1.length) = True := eq_true (by omega)
                                (try rw [show ((0 : Int)).toNat = 0 from rfl] at hx119_0)
                                (try rw [Addr.add_zero'] at hx119_0)
                                replace p119 := eq_true p119
                                replace q119 := eq_true q119
                                go_wp2_with (first | (go_at_call 32; (with_reducible refine (spec_l01Fits.calls (rd l1 0) 3 true _ A31.out).mono ?_); rintro e w' ⟨rfl, ⟨nd, rfl⟩⟩; (try first | exact ⟨rfl, _, World.drewN_drewN _ _ _⟩ | exact ⟨rfl, _, Eq.trans (World.drewN_drewN _ _ _) (congrArg (World.drewN _) (Nat.add_assoc _ _ _))⟩); have p121 : 0 ≤ (1 : Int) := (by omega); have q121 : 1 < (l1.length : Int) := of_decide_eq_true (by first | (with_reducible assumption) | assumption); obtain ⟨ad121, e121, hx121_0⟩ := Kd.at_int HR1.out 1 p121 q121; obtain rfl : ad119 = ad121 := (by injection e121); (try simp only [show (1 : Int).toNat = 1 from rfl, Nat.reduceMul, Nat.reduceEqDiff, Go.Addr.add, ↓reduceIte] at hx121_0); have qi121 : (1 < l1.length) = True := eq_true (by omega); (try rw [show ((1 : Int)).toNat = 1 from rfl] at hx121_0); replace p121 := eq_true p121; replace q121 := eq_true q121) | (go_at_call 32; (with_reducible refine (spec_l01Fits.calls (rd l1 1) 1 false _ A34.out).mono ?_); rintro e w' ⟨rfl, ⟨nd, rfl⟩⟩; (try first | exact ⟨rfl, _, World.drewN_drewN _ _ _⟩ | exact ⟨rfl, _, Eq.trans (World.drewN_drewN _ _ _) (congrArg (World.drewN _) (Nat.add_assoc _ _ _))⟩)))
                                repeat (go_quiet (first | (go_at_call 32; (with_reducible refine (spec_l01Fits.calls (rd l1 0) 3 true _ A31.out).mono ?_); rintro e w' ⟨rfl, ⟨nd, rfl⟩⟩; (try first | exact ⟨rfl, _, World.drewN_drewN _ _ _⟩ | exact ⟨rfl, _, Eq.trans (World.drewN_drewN _ _ _) (congrArg (World.drewN _) (Nat.add_assoc _ _ _))⟩); have p121 : 0 ≤ (1 : Int) := (by omega); have q121 : 1 < (l1.length : Int) := of_decide_eq_true (by first | (with_reducible assumption) | assumption); obtain ⟨ad121, e121, hx121_0⟩ := Kd.at_int HR1.out 1 p121 q121; obtain rfl : ad119 = ad121 := (by injection e121); (try simp only [show (1 : Int).toNat = 1 from rfl, Nat.reduceMul, Nat.reduceEqDiff, Go.Addr.add, ↓reduceIte] at hx121_0); have qi121 : (1 < l1.length) = True := eq_true (by omega); (try rw [show ((1 : Int)).toNat = 1 from rfl] at hx121_0); replace p121 := eq_true p121; replace q121 := eq_true q121) | (go_at_call 32; (with_reducible refine (spec_l01Fits.calls (rd l1 1) 1 false _ A34.out).mono ?_); rintro e w' ⟨rfl, ⟨nd, rfl⟩⟩; (try first | exact ⟨rfl, _, World.drewN_drewN _ _ _⟩ | exact ⟨rfl, _, Eq.trans (World.drewN_drewN _ _ _) (congrArg (World.drewN _) (Nat.add_assoc _ _ _))⟩))); try go_wp2_with (first | (go_at_call 32; (with_reducible refine (spec_l01Fits.calls (rd l1 0) 3 true _ A31.out).mono ?_); rintro e w' ⟨rfl, ⟨nd, rfl⟩⟩; (try first | exact ⟨rfl, _, World.drewN_drewN _ _ _⟩ | exact ⟨rfl, _, Eq.trans (World.drewN_drewN _ _ _) (congrArg (World.drewN _) (Nat.add_assoc _ _ _))⟩); have p121 : 0 ≤ (1 : Int) := (by omega); have q121 : 1 < (l1.length : Int) := of_decide_eq_true (by first | (with_reducible assumption) | assumption); obtain ⟨ad121, e121, hx121_0⟩ := Kd.at_int HR1.out 1 p121 q121; obtain rfl : ad119 = ad121 := (by injection e121); (try simp only [show (1 : Int).toNat = 1 from rfl, Nat.reduceMul, Nat.reduceEqDiff, Go.Addr.add, ↓reduceIte] at hx121_0); have qi121 : (1 < l1.length) = True := eq_true (by omega); (try rw [show ((1 : Int)).toNat = 1 from rfl] at hx121_0); replace p121 := eq_true p121; replace q121 := eq_true q121) | (go_at_call 32; (with_reducible refine (spec_l01Fits.calls (rd l1 1) 1 false _ A34.out).mono ?_); rintro e w' ⟨rfl, ⟨nd, rfl⟩⟩; (try first | exact ⟨rfl, _, World.drewN_drewN _ _ _⟩ | exact ⟨rfl, _, Eq.trans (World.drewN_drewN _ _ _) (congrArg (World.drewN _) (Nat.add_assoc _ _ _))⟩))))
                                go_ret
                                exact ⟨by first | rfl | (simp; done) | (simp [*]; done), by repeat (first | exact Drawn0.refl _ | apply Drawn0.step)⟩
                            · rw [if_neg c33] at H
                              exact absurd H (by simp)
                          · replace c32 := Bool.eq_false_iff.mpr c32
                            subst c32
                            have H1 : (some (-1)) = some r := by rw [if_neg (show ¬ (false = true) by decide)] at H; exact H
                            clear H
                            have H := H1
                            clear H1
                            obtain rfl := Option.some.inj H
                            have p119 : 0 ≤ (0 : Int) := (by omega)
                            have q119 : 0 < (l1.length : Int) := of_decide_eq_true (by first | (with_reducible assumption) | assumption)
                            obtain ⟨ad119, e119, hx119_0⟩ := Kd.at_int HR1.out 0 p119 q119
                            cases e119
                            have qi119 : (0 < l1.length) = True := eq_true (by omega)
                            (try rw [show ((0 : Int)).toNat = 0 from rfl] at hx119_0)
                            (try rw [Addr.add_zero'] at hx119_0)
                            replace p119 := eq_true p119
                            replace q119 := eq_true q119
                            go_wp2_with (first | (go_at_call 32; (with_reducible refine (spec_l01Fits.calls (rd l1 0) 3 false _ A31.out).mono ?_); rintro e w' ⟨rfl, ⟨nd, rfl⟩⟩; (try first | exact ⟨rfl, _, World.drewN_drewN _ _ _⟩ | exact ⟨rfl, _, Eq.trans (World.drewN_drewN _ _ _) (congrArg (World.drewN _) (Nat.add_assoc _ _ _))⟩)))
                            repeat (go_quiet (first | (go_at_call 32; (with_reducible refine (spec_l01Fits.calls (rd l1 0) 3 false _ A31.out).mono ?_); rintro e w' ⟨rfl, ⟨nd, rfl⟩⟩; (try first | exact ⟨rfl, _, World.drewN_drewN _ _ _⟩ | exact ⟨rfl, _, Eq.trans (World.drewN_drewN _ _ _) (congrArg (World.drewN _) (Nat.add_assoc _ _ _))⟩))); try go_wp2_with (first | (go_at_call 32; (with_reducible refine (spec_l01Fits.calls (rd l1 0) 3 false _ A31.out).mono ?_); rintro e w' ⟨rfl, ⟨nd, rfl⟩⟩; (try first | exact ⟨rfl, _, World.drewN_drewN _ _ _⟩ | exact ⟨rfl, _, Eq.trans (World.drewN_drewN _ _ _) (congrArg (World.drewN _) (Nat.add_assoc _ _ _))⟩))))
                            go_ret
                            exact ⟨by first | rfl | (simp; done) | (simp [*]; done), by repeat (first | exact Drawn0.refl _ | apply Drawn0.step)⟩
                        · rw [if_neg c30] at H
                          exact absurd H (by simp)
                      · rw [if_neg c29] at H
                        have c29b0 : ((l1.length : Int) == 3) = false := beq_eq_false_iff_ne.mpr c29
                        have c29b1 : ((l1.length : Int) != 3) = true := bne_iff_ne.mpr c29
                        obtain rfl := Option.some.inj H
                        go_wp2
                        repeat (go_quiet (fail); try go_wp2)
                        go_ret
                        exact ⟨by first | rfl | (simp; done) | (simp [*]; done), by repeat (first | exact Drawn0.refl _ | apply Drawn0.step)⟩
                    · rw [if_neg c28] at H
                      have c28b0 : (a0 == 5) = false := beq_eq_false_iff_ne.mpr c28
                      have c28b1 : (a0 != 5) = true := bne_iff_ne.mpr c28
                      by_cases c39 : a0 = 6
                      · rw [if_pos c39] at H
                        have c39b0 : (a0 == 6) = true := beq_iff_eq.mpr c39
                        have c39b1 : (a0 != 6) = false := bne_eq_false_iff_eq.mpr c39
                        clear c39
                        by_cases c40 : (l1.length : Int) = 2
                        · rw [if_pos c40] at H
                          have c40b0 : ((l1.length : Int) == 2) = true := beq_iff_eq.mpr c40
                          have c40b1 : ((l1.length : Int) != 2) = false := bne_eq_false_iff_eq.mpr c40
                          clear c40
                          by_cases c41 : 0 < (l1.length : Int)
                          · rw [if_pos c41] at H
                            have c41b0 : decide (0 < (l1.length : Int)) = true := decide_eq_true c41
                            have c41b1 : decide (0 < l1.length) = true := decide_eq_true (by omega)
                            clear c41
                            by_cases c42 : 1 < (l1.length : Int)
                            · rw [if_pos c42] at H
                              have c42b0 : decide (1 < (l1.length : Int)) = true := decide_eq_true c42
                              have c42b1 : decide (1 < l1.length) = true := decide_eq_true (by omega)
                              clear c42
                              replace H := Option.bind_eq_some_iff.mp H
                              obtain ⟨t127, A430, H⟩ := H
                              replace H : (if t127 ≥ 0 then (some (rd l1 0)) else (some (-1))) = some r := H
                              have A43 := Aside0.mk A430
                              clear A430
                              by_cases c44 : t127 ≥ 0
                              · rw [if_pos c44] at H
                                have c44b0 : decide (0 ≤ t127) = true := decide_eq_true c44
                                clear c44
                                obtain rfl := Option.some.inj H
                                have p125 : 0 ≤ (0 : Int) := (by omega)
                                have q125 : 0 < (l1.length : Int) := of_decide_eq_true (by first | (with_reducible assumption) | assumption)
                                obtain ⟨ad125, e125, hx125_0⟩ := Kd.at_int HR1.out 0 p125 q125
                                cases e125
                                have qi125 : (0 < l1.length) = True := eq_true (by omega)
                                (try rw [show ((0 : Int)).toNat = 0 from rfl] at hx125_0)
                                (try rw [Addr.add_zero'] at hx125_0)
                                replace p125 := eq_true p125
                                replace q125 := eq_true q125
                                have p126 : 0 ≤ (1 : Int) := (by omega)
                                have q126 : 1 < (l1.length : Int) := of_decide_eq_true (by first | (with_reducible assumption) | assumption)
                                obtain ⟨ad126, e126, hx126_0⟩ := Kd.at_int HR1.out 1 p126 q126
                                obtain rfl : ad125 = ad126 := (by injection e126)
                                (try simp only [show (1 : Int).toNat = 1 from rfl, Nat.reduceMul, Nat.reduceEqDiff, Go.Addr.add, ↓reduceIte] at hx126_0)
                                have qi126 : (1 < l1.length) = True := eq_true (by omega)
                                (try rw [show ((1 : Int)).toNat = 1 from rfl] at hx126_0)
                                replace p126 := eq_true p126
                                replace q126 := eq_true q126
                                go_wp2_with (first | (go_at_call 15; (with_reducible refine (spec_OpKind.calls kj19 7 (rd l1 0) (rd l1 1) t127 _ A43.out).mono ?_); rintro e w' ⟨rfl, ⟨nd, rfl⟩⟩; (try first | exact ⟨rfl, _, World.drewN_drewN _ _ _⟩ | exact ⟨rfl, _, Eq.trans (World.drewN_drewN _ _ _) (congrArg (World.drewN _) (Nat.add_assoc _ _ _))⟩); have p128 : 0 ≤ (0 : Int) := (by omega); have q128 : 0 < (l1.length : Int) := of_decide_eq_true (by first | (with_reducible assumption) | assumption); obtain ⟨ad128, e128, hx128_0⟩ := Kd.at_int HR1.out 0 p128 q128; obtain rfl : ad125 = ad128 := (by injection e128); have qi128 : (0 < l1.length) = True := eq_true (by omega); (try rw [show ((0 : Int)).toNat = 0 from rfl] at hx128_0); (try rw [Addr.add_zero'] at hx128_0); replace p128 := eq_true p128; replace q128 := eq_true q128))
                                repeat (go_quiet (first | (go_at_call 15; (with_reducible refine (spec_OpKind.calls kj19 7 (rd l1 0) (rd l1 1) t127 _ A43.out).mono ?_); rintro e w' ⟨rfl, ⟨nd, rfl⟩⟩; (try first | exact ⟨rfl, _, World.drewN_drewN _ _ _⟩ | exact ⟨rfl, _, Eq.trans (World.drewN_drewN _ _ _) (congrArg (World.drewN _) (Nat.add_assoc _ _ _))⟩); have p128 : 0 ≤ (0 : Int) := (by omega); have q128 : 0 < (l1.length : Int) := of_decide_eq_true (by first | (with_reducible assumption) | assumption); obtain ⟨ad128, e128, hx128_0⟩ := Kd.at_int HR1.out 0 p128 q128; obtain rfl : ad125 = ad128 := (by injection e128); have qi128 : (0 < l1.length) = True := eq_true (by omega); (try rw [show ((0 : Int)).toNat = 0 from rfl] at hx128_0); (try rw [Addr.add_zero'] at hx128_0); replace p128 := eq_true p128; replace q128 := eq_true q128)); try go_wp2_with (first | (go_at_call 15; (with_reducible refine (spec_OpKind.calls kj19 7 (rd l1 0) (rd l1 1) t127 _ A43.out).mono ?_); rintro e w' ⟨rfl, ⟨nd, rfl⟩⟩; (try first | exact ⟨rfl, _, World.drewN_drewN _ _ _⟩ | exact ⟨rfl, _, Eq.trans (World.drewN_drewN _ _ _) (congrArg (World.drewN _) (Nat.add_assoc _ _ _))⟩); have p128 : 0 ≤ (0 : Int) := (by omega); have q128 : 0 < (l1.length : Int) := of_decide_eq_true (by first | (with_reducible assumption) | assumption); obtain ⟨ad128, e128, hx128_0⟩ := Kd.at_int HR1.out 0 p128 q128; obtain rfl : ad125 = ad128 := (by injection e128); have qi128 : (0 < l1.length) = True := eq_true (by omega); (try rw [show ((0 : Int)).toNat = 0 from rfl] at hx128_0); (try rw [Addr.add_zero'] at hx128_0); replace p128 := eq_true p128; replace q128 := eq_true q128)))
                                go_ret
                                exact ⟨by first | rfl | (simp; done) | (simp [*]; done), by repeat (first | exact Drawn0.refl _ | apply Drawn0.step)⟩
                              · rw [if_neg c44] at H
                                have c44b0 : decide (0 ≤ t127) = false := decide_eq_false c44
                                clear c44
                                obtain rfl := Option.some.inj H
                                have p125 : 0 ≤ (0 : Int) := (by omega)
                                have q125 : 0 < (l1.length : Int) := of_decide_eq_true (by first | (with_reducible assumption) | assumption)
                                obtain ⟨ad125, e125, hx125_0⟩ := Kd.at_int HR1.out 0 p125 q125
                                cases e125
                                have qi125 : (0 < l1.length) = True := eq_true (by omega)
                                (try rw [show ((0 : Int)).toNat = 0 from rfl] at hx125_0)
                                (try rw [Addr.add_zero'] at hx125_0)
                                replace p125 := eq_true p125
                                replace q125 := eq_true q125
                                have p126 : 0 ≤ (1 : Int) := (by omega)
                                have q126 : 1 < (l1.length : Int) := of_decide_eq_true (by first | (with_reducible assumption) | assumption)
                                obtain ⟨ad126, e126, hx126_0⟩ := Kd.at_int HR1.out 1 p126 q126
                                obtain rfl : ad125 = ad126 := (by injection e126)
                                (try simp only [show (1 : Int).toNat = 1 from rfl, Nat.reduceMul, Nat.reduceEqDiff, Go.Addr.add, ↓reduceIte] at hx126_0)
                                have qi126 : (1 < l1.length) = True := eq_true (by omega)
                                (try rw [show ((1 : Int)).toNat = 1 from rfl] at hx126_0)
                                replace p126 := eq_true p126
                                replace q126 := eq_true q126
                                go_wp2_with (first | (go_at_call 15; (with_reducible refine (spec_OpKind.calls kj19 7 (rd l1 0) (rd l1 1) t127 _ A43.out).mono ?_); rintro e w' ⟨rfl, ⟨nd, rfl⟩⟩; (try first | exact ⟨rfl, _, World.drewN_drewN _ _ _⟩ | exact ⟨rfl, _, Eq.trans (World.drewN_drewN _ _ _) (congrArg (World.drewN _) (Nat.add_assoc _ _ _))⟩)))
                                repeat (go_quiet (first | (go_at_call 15; (with_reducible refine (spec_OpKind.calls kj19 7 (rd l1 0) (rd l1 1) t127 _ A43.out).mono ?_); rintro e w' ⟨rfl, ⟨nd, rfl⟩⟩; (try first | exact ⟨rfl, _, World.drewN_drewN _ _ _⟩ | exact ⟨rfl, _, Eq.trans (World.drewN_drewN _ _ _) (congrArg (World.drewN _) (Nat.add_assoc _ _ _))⟩))); try go_wp2_with (first | (go_at_call 15; (with_reducible refine (spec_OpKind.calls kj19 7 (rd l1 0) (rd l1 1) t127 _ A43.out).mono ?_); rintro e w' ⟨rfl, ⟨nd, rfl⟩⟩; (try first | exact ⟨rfl, _, World.drewN_drewN _ _ _⟩ | exact ⟨rfl, _, Eq.trans (World.drewN_drewN _ _ _) (congrArg (World.drewN _) (Nat.add_assoc _ _ _))⟩))))
                                go_ret
                                exact ⟨by first | rfl | (simp; done) | (simp [*]; done), by repeat (first | exact Drawn0.refl _ | apply Drawn0.step)⟩
                            · rw [if_neg c42] at H
                              exact absurd H (by simp)
                          · rw [if_neg c41] at H
                            exact absurd H (by simp)
                        · rw [if_neg c40] at H
                          have c40b0 : ((l1.length : Int) == 2) = false := beq_eq_false_iff_ne.mpr c40
                          have c40b1 : ((l1.length : Int) != 2) = true := bne_iff_ne.mpr c40
                          obtain rfl := Option.some.inj H
                          go_wp2
                          repeat (go_quiet (fail); try go_wp2)
                          go_ret
                          exact ⟨by first | rfl | (simp; done) | (simp [*]; done), by repeat (first | exact Drawn0.refl _ | apply Drawn0.step)⟩
                      · rw [if_neg c39] at H
                        have c39b0 : (a0 == 6) = false := beq_eq_false_iff_ne.mpr c39
                        have c39b1 : (a0 != 6) = true := bne_iff_ne.mpr c39
                        have HC45 := Aside0.mk H
                        clear H
                        go_upto_if 104 with (fail)
                        repeat (go_quiet (fail); go_upto_if 104 with (fail))
                        go_cut [104] (fun v104 wc => ∃ (kq : Nat) (x104_44 : Bool), v104 = .bool x104_44 ∧ Aside0 (spec_CallKind.j2 kq l1 (l1.length : Int) a0 x104_44 = some r) ∧ Aside0 (kq ≤ kj19) ∧ Drawn0 w wc)
                        case first =>
                          have H := HC45.out
                          clear HC45
                          by_cases c46 : a0 = 7
                          · rw [if_pos c46] at H
                            have c46b0 : (a0 == 7) = true := beq_iff_eq.mpr c46
                            have c46b1 : (a0 != 7) = false := bne_eq_false_iff_eq.mpr c46
                            clear c46
                            (first | rw [c46b0] | (simp only [i64_w, i32_w]; rw [c46b0]) | skip)
                            have H' := Aside0.mk H
                            clear H
                            go_wp2
                            repeat (go_quiet (fail); try go_wp2)
                            go_meet
                            case rel => exact ⟨_, ((a0 == 7)), (by first | rfl | (simp; done) | (simp [*]; done)), H', ⟨by have := HK1.out; have := HJ19.out; first | omega | exact Nat.le_refl _⟩, by repeat (first | exact Drawn0.refl _ | apply Drawn0.step)⟩
                          · rw [if_neg c46] at H
                            have c46b0 : (a0 == 7) = false := beq_eq_false_iff_ne.mpr c46
                            have c46b1 : (a0 != 7) = true := bne_iff_ne.mpr c46
                            (first | rw [c46b0] | (simp only [i64_w, i32_w]; rw [c46b0]) | skip)
                            by_cases c47 : a0 = 8
                            · rw [if_pos c47] at H
                              have c47b0 : (a0 == 8) = true := beq_iff_eq.mpr c47
                              have c47b1 : (a0 != 8) = false := bne_eq_false_iff_eq.mpr c47
                              clear c47
                              have H' := Aside0.mk H
                              clear H
                              go_wp2
                              repeat (go_quiet (fail); try go_wp2)
                              go_meet
                              case rel => exact ⟨_, ((a0 == 8)), (by first | rfl | (simp; done) | (simp [*]; done)), H', ⟨by have := HK1.out; have := HJ19.out; first | omega | exact Nat.le_refl _⟩, by repeat (first | exact Drawn0.refl _ | apply Drawn0.step)⟩
                            · rw [if_neg c47] at H
                              have c47b0 : (a0 == 8) = false := beq_eq_false_iff_ne.mpr c47
                              have c47b1 : (a0 != 8) = true := bne_iff_ne.mpr c47
                              have H' := Aside0.mk H
                              clear H
                              go_wp2
                              repeat (go_quiet (fail); try go_wp2)
                              go_meet
                              case rel => exact ⟨_, ((a0 == 9)), (by first | rfl | (simp; done) | (simp [*]; done)), H', ⟨by have := HK1.out; have := HJ19.out; first | omega | exact Nat.le_refl _⟩, by repeat (first | exact Drawn0.refl _ | apply Drawn0.step)⟩
                        case rest =>
                          clear HC45
                          try clear c1
                          try clear p1
                          try clear q1
                          try clear hx1
                          try clear qi1
                          try clear c2
                          try clear p2
                          try clear c3
                          try clear c3b0
                          try clear c3b1
                          try clear c4
                          try clear c4b0
                          try clear c5
                          try clear c5b0
                          try clear c6
                          try clear c6b0
                          try clear p6
                          try clear c8
                          try clear c9
                          try clear c9b0
                          try clear c9b1
                          try clear c10
                          try clear c10b0
                          try clear c10b1
                          try clear p10
                          try clear q10
                          try clear hx10
                          try clear c11
                          try clear c11b0
                          try clear c11b1
                          try clear p11
                          try clear q11
                          try clear hx11
                          try clear qi11
                          try clear c12
                          try clear c12b0
                          try clear c12b1
                          try clear p12
                          try clear q12
                          try clear hx12
                          try clear qi12
                          try clear c14
                          try clear c15
                          try clear c15b0
                          try clear c15b1
                          try clear c16
                          try clear c16b0
                          try clear c16b1
                          try clear c17
                          try clear c17b0
                          try clear c17b1
                          try clear c19
                          try clear c21
                          try clear c21b0
                          try clear c21b1
                          try clear c22
                          try clear c22b0
                          try clear c22b1
                          try clear c23
                          try clear c24
                          try clear c24b0
                          try clear c24b1
                          try clear c25
                          try clear c25b0
                          try clear c25b1
                          try clear c27
                          try clear c28
                          try clear c28b0
                          try clear c28b1
                          try clear c29
                          try clear c29b0
                          try clear c29b1
                          try clear c30
                          try clear c30b0
                          try clear c30b1
                          try clear c32
                          try clear c33
                          try clear c33b0
                          try clear c33b1
                          try clear c35
                          try clear c36
                          try clear c36b0
                          try clear c36b1
                          try clear c38
                          try clear c39
                          try clear c39b0
                          try clear c39b1
                          try clear c40
                          try clear c40b0
                          try clear c40b1
                          try clear c41
                          try clear c41b0
                          try clear c41b1
                          try clear c42
                          try clear c42b0
                          try clear c42b1
                          try clear c44
                          try clear c44b0
                          try clear c46
                          try clear c46b0
                          try clear c46b1
                          try clear c47
                          try clear c47b0
                          try clear c47b1
                          try clear hx108_0
                          try clear hx110_0
                          try clear hx111_0
                          try clear hx112_0
                          try clear hx114_0
                          try clear hx115_0
                          try clear hx117_0
                          try clear hx119_0
                          try clear hx121_0
                          try clear hx123_0
                          try clear hx125_0
                          try clear hx126_0
                          try clear hx128_0
                          try clear p1
                          try clear p10
                          try clear p108
                          try clear p11
                          try clear p110
                          try clear p111
                          try clear p112
                          try clear p114
                          try clear p115
                          try clear p117
                          try clear p119
                          try clear p121
                          try clear p123
                          try clear p125
                          try clear p126
                          try clear p128
                          try clear p2
                          try clear p6
                          try clear q1
                          try clear q10
                          try clear q108
                          try clear q11
                          try clear q110
                          try clear q111
                          try clear q112
                          try clear q114
                          try clear q115
                          try clear q117
                          try clear q119
                          try clear q121
                          try clear q123
                          try clear q125
                          try clear q126
                          try clear q128
                          obtain ⟨kq, x104_44, rfl, HA, HJ44, ⟨mc44, rfl⟩⟩ := hcut
                          cases kq with
                          | zero => exact absurd HA.out (by simp [spec_CallKind.j2])
                          | succ kj44 =>
                            have H := HA.out
                            clear HA
                            simp only [spec_CallKind.j2] at H
                            by_cases c48 : x104_44 = true
                            · subst c48
                              have H1 : (if (l1.length : Int) = 1 then (if 0 < (l1.length : Int) then ((spec_l01Fits.f (rd l1 0) 5).bind fun t130 => (if t130 = true then (some 1) else (some (-1)))) else (none)) else (some (-1))) = some r := by rw [if_pos rfl] at H; exact H
                              clear H
                              have H := H1
                              clear H1
                              by_cases c49 : (l1.length : Int) = 1
                              · rw [if_pos c49] at H
                                have c49b0 : ((l1.length : Int) == 1) = true := beq_iff_eq.mpr c49
                                have c49b1 : ((l1.length : Int) != 1) = false := bne_eq_false_iff_eq.mpr c49
                                clear c49
                                by_cases c50 : 0 < (l1.length : Int)
                                · rw [if_pos c50] at H
                                  have c50b0 : decide (0 < (l1.length : Int)) = true := decide_eq_true c50
                                  have c50b1 : decide (0 < l1.length) = true := decide_eq_true (by omega)
                                  clear c50
                                  replace H := Option.bind_eq_some_iff.mp H
                                  obtain ⟨t130, A510, H⟩ := H
                                  replace H : (if t130 = true then (some 1) else (some (-1))) = some r := H
                                  have A51 := Aside0.mk A510
                                  clear A510
                                  by_cases c52 : t130 = true
                                  · subst c52
                                    have H1 : (some 1) = some r := by rw [if_pos rfl] at H; exact H
                                    clear H
                                    have H := H1
                                    clear H1
                                    obtain rfl := Option.some.inj H
                                    have p129 : 0 ≤ (0 : Int) := (by omega)
                                    have q129 : 0 < (l1.length : Int) := of_decide_eq_true (by first | (with_reducible assumption) | assumption)
                                    obtain ⟨ad129, e129, hx129_0⟩ := Kd.at_int HR1.out 0 p129 q129
                                    cases e129
                                    have qi129 : (0 < l1.length) = True := eq_true (by omega)
                                    (try rw [show ((0 : Int)).toNat = 0 from rfl] at hx129_0)
                                    (try rw [Addr.add_zero'] at hx129_0)
                                    replace p129 := eq_true p129
                                    replace q129 := eq_true q129
                                    go_wp2_with (first | (go_at_call 32; (with_reducible refine (spec_l01Fits.calls (rd l1 0) 5 true _ A51.out).mono ?_); rintro e w' ⟨rfl, ⟨nd, rfl⟩⟩; (try first | exact ⟨rfl, _, World.drewN_drewN _ _ _⟩ | exact ⟨rfl, _, Eq.trans (World.drewN_drewN _ _ _) (congrArg (World.drewN _) (Nat.add_assoc _ _ _))⟩)))
                                    repeat (go_quiet (first | (go_at_call 32; (with_reducible refine (spec_l01Fits.calls (rd l1 0) 5 true _ A51.out).mono ?_); rintro e w' ⟨rfl, ⟨nd, rfl⟩⟩; (try first | exact ⟨rfl, _, World.drewN_drewN _ _ _⟩ | exact ⟨rfl, _, Eq.trans (World.drewN_drewN _ _ _) (congrArg (World.drewN _) (Nat.add_assoc _ _ _))⟩))); try go_wp2_with (first | (go_at_call 32; (with_reducible refine (spec_l01Fits.calls (rd l1 0) 5 true _ A51.out).mono ?_); rintro e w' ⟨rfl, ⟨nd, rfl⟩⟩; (try first | exact ⟨rfl, _, World.drewN_drewN _ _ _⟩ | exact ⟨rfl, _, Eq.trans (World.drewN_drewN _ _ _) (congrArg (World.drewN _) (Nat.add_assoc _ _ _))⟩))))
                                    go_ret
                                    exact ⟨by first | rfl | (simp; done) | (simp [*]; done), by repeat (first | exact Drawn0.refl _ | apply Drawn0.step)⟩
                                  · replace c52 := Bool.eq_false_iff.mpr c52
                                    subst c52
                                    have H1 : (some (-1)) = some r := by rw [if_neg (show ¬ (false = true) by decide)] at H; exact H
                                    clear H
                                    have H := H1
                                    clear H1
                                    obtain rfl := Option.some.inj H
                                    have p129 : 0 ≤ (0 : Int) := (by omega)
                                    have q129 : 0 < (l1.length : Int) := of_decide_eq_true (by first | (with_reducible assumption) | assumption)
                                    obtain ⟨ad129, e129, hx129_0⟩ := Kd.at_int HR1.out 0 p129 q129
                                    cases e129
                                    have qi129 : (0 < l1.length) = True := eq_true (by omega)
                                    (try rw [show ((0 : Int)).toNat = 0 from rfl] at hx129_0)
                                    (try rw [Addr.add_zero'] at hx129_0)
                                    replace p129 := eq_true p129
                                    replace q129 := eq_true q129
                                    go_wp2_with (first | (go_at_call 32; (with_reducible refine (spec_l01Fits.calls (rd l1 0) 5 false _ A51.out).mono ?_); rintro e w' ⟨rfl, ⟨nd, rfl⟩⟩; (try first | exact ⟨rfl, _, World.drewN_drewN _ _ _⟩ | exact ⟨rfl, _, Eq.trans (World.drewN_drewN _ _ _) (congrArg (World.drewN _) (Nat.add_assoc _ _ _))⟩)))
                                    repeat (go_quiet (first | (go_at_call 32; (with_reducible refine (spec_l01Fits.calls (rd l1 0) 5 false _ A51.out).mono ?_); rintro e w' ⟨rfl, ⟨nd, rfl⟩⟩; (try first | exact ⟨rfl, _, World.drewN_drewN _ _ _⟩ | exact ⟨rfl, _, Eq.trans (World.drewN_drewN _ _ _) (congrArg (World.drewN _) (Nat.add_assoc _ _ _))⟩))); try go_wp2_with (first | (go_at_call 32; (with_reducible refine (spec_l01Fits.calls (rd l1 0) 5 false _ A51.out).mono ?_); rintro e w' ⟨rfl, ⟨nd, rfl⟩⟩; (try first | exact ⟨rfl, _, World.drewN_drewN _ _ _⟩ | exact ⟨rfl, _, Eq.trans (World.drewN_drewN _ _ _) (congrArg (World.drewN _) (Nat.add_assoc _ _ _))⟩))))
                                    go_ret
                                    exact ⟨by first | rfl | (simp; done) | (simp [*]; done), by repeat (first | exact Drawn0.refl _ | apply Drawn0.step)⟩
                                · rw [if_neg c50] at H
                                  exact absurd H (by simp)
                              · rw [if_neg c49] at H
                                have c49b0 : ((l1.length : Int) == 1) = false := beq_eq_false_iff_ne.mpr c49
                                have c49b1 : ((l1.length : Int) != 1) = true := bne_iff_ne.mpr c49
                                obtain rfl := Option.some.inj H
                                go_wp2
                                repeat (go_quiet (fail); try go_wp2)
                                go_ret
                                exact ⟨by first | rfl | (simp; done) | (simp [*]; done), by repeat (first | exact Drawn0.refl _ | apply Drawn0.step)⟩
                            · replace c48 := Bool.eq_false_iff.mpr c48
                              subst c48
                              have H1 : (if a0 = 10 then (if (l1.length : Int) = 1 then (if 0 < (l1.length : Int) then ((spec_l01Fits.f (rd l1 0) 2).bind fun t132 => (if t132 = true then (some 2) else (some (-1)))) else (none)) else (some (-1))) else (if a0 = 12 then (spec_CallKind.j3 kj44 l1 (l1.length : Int) (a0 == 12)) else (spec_CallKind.j3 kj44 l1 (l1.length : Int) (a0 == 13)))) = some r := by rw [if_neg (show ¬ (false = true) by decide)] at H; exact H
                              clear H
                              have H := H1
                              clear H1
                              by_cases c53 : a0 = 10
                              · rw [if_pos c53] at H
                                have c53b0 : (a0 == 10) = true := beq_iff_eq.mpr c53
                                have c53b1 : (a0 != 10) = false := bne_eq_false_iff_eq.mpr c53
                                clear c53
                                by_cases c54 : (l1.length : Int) = 1
                                · rw [if_pos c54] at H
                                  have c54b0 : ((l1.length : Int) == 1) = true := beq_iff_eq.mpr c54
                                  have c54b1 : ((l1.length : Int) != 1) = false := bne_eq_false_iff_eq.mpr c54
                                  clear c54
                                  by_cases c55 : 0 < (l1.length : Int)
                                  · rw [if_pos c55] at H
                                    have c55b0 : decide (0 < (l1.length : Int)) = true := decide_eq_true c55
                                    have c55b1 : decide (0 < l1.length) = true := decide_eq_true (by omega)
                                    clear c55
                                    replace H := Option.bind_eq_some_iff.mp H
                                    obtain ⟨t132, A560, H⟩ := H
                                    replace H : (if t132 = true then (some 2) else (some (-1))) = some r := H
                                    have A56 := Aside0.mk A560
                                    clear A560
                                    by_cases c57 : t132 = true
                                    · subst c57
                                      have H1 : (some 2) = some r := by rw [if_pos rfl] at H; exact H
                                      clear H
                                      have H := H1
                                      clear H1
                                      obtain rfl := Option.some.inj H
                                      have p131 : 0 ≤ (0 : Int) := (by omega)
                                      have q131 : 0 < (l1.length : Int) := of_decide_eq_true (by first | (with_reducible assumption) | assumption)
                                      obtain ⟨ad131, e131, hx131_0⟩ := Kd.at_int HR1.out 0 p131 q131
                                      cases e131
                                      have qi131 : (0 < l1.length) = True := eq_true (by omega)
                                      (try rw [show ((0 : Int)).toNat = 0 from rfl] at hx131_0)
                                      (try rw [Addr.add_zero'] at hx131_0)
                                      replace p131 := eq_true p131
                                      replace q131 := eq_true q131
                                      go_wp2_with (first | (go_at_call 32; (with_reducible refine (spec_l01Fits.calls (rd l1 0) 2 true _ A56.out).mono ?_); rintro e w' ⟨rfl, ⟨nd, rfl⟩⟩; (try first | exact ⟨rfl, _, World.drewN_drewN _ _ _⟩ | exact ⟨rfl, _, Eq.trans (World.drewN_drewN _ _ _) (congrArg (World.drewN _) (Nat.add_assoc _ _ _))⟩)))
                                      repeat (go_quiet (first | (go_at_call 32; (with_reducible refine (spec_l01Fits.calls (rd l1 0) 2 true _ A56.out).mono ?_); rintro e w' ⟨rfl, ⟨nd, rfl⟩⟩; (try first | exact ⟨rfl, _, World.drewN_drewN _ _ _⟩ | exact ⟨rfl, _, Eq.trans (World.drewN_drewN _ _ _) (congrArg (World.drewN _) (Nat.add_assoc _ _ _))⟩))); try go_wp2_with (first | (go_at_call 32; (with_reducible refine (spec_l01Fits.calls (rd l1 0) 2 true _ A56.out).mono ?_); rintro e w' ⟨rfl, ⟨nd, rfl⟩⟩; (try first | exact ⟨rfl, _, World.drewN_drewN _ _ _⟩ | exact ⟨rfl, _, Eq.trans (World.drewN_drewN _ _ _) (congrArg (World.drewN _) (Nat.add_assoc _ _ _))⟩))))
                                      go_ret
                                      exact ⟨by first | rfl | (simp; done) | (simp [*]; done), by repeat (first | exact Drawn0.refl _ | apply Drawn0.step)⟩
                                    · replace c57 := Bool.eq_false_iff.mpr c57
                                      subst c57
                                      have H1 : (some (-1)) = some r := by rw [if_neg (show ¬ (false = true) by decide)] at H; exact H
                                      clear H
                                      have H := H1
                                      clear H1
                                      obtain rfl := Option.some.inj H
                                      have p131 : 0 ≤ (0 : Int) := (by omega)
                                      have q131 : 0 < (l1.length : Int) := of_decide_eq_true (by first | (with_reducible assumption) | assumption)
                                      obtain ⟨ad131, e131, hx131_0⟩ := Kd.at_int HR1.out 0 p131 q131
                                      cases e131
                                      have qi131 : (0 < l1.length) = True := eq_true (by omega)
                                      (try rw [show ((0 : Int)).toNat = 0 from rfl] at hx131_0)
                                      (try rw [Addr.add_zero'] at hx131_0)
                                      replace p131 := eq_true p131
                                      replace q131 := eq_true q131
                                      go_wp2_with (first | (go_at_call 32; (with_reducible refine (spec_l01Fits.calls (rd l1 0) 2 false _ A56.out).mono ?_); rintro e w' ⟨rfl, ⟨nd, rfl⟩⟩; (try first | exact ⟨rfl, _, World.drewN_drewN _ _ _⟩ | exact ⟨rfl, _, Eq.trans (World.drewN_drewN _ _ _) (congrArg (World.drewN _) (Nat.add_assoc _ _ _))⟩)))
                                      repeat (go_quiet (first | (go_at_call 32; (with_reducible refine (spec_l01Fits.calls (rd l1 0) 2 false _ A56.out).mono ?_); rintro e w' ⟨rfl, ⟨nd, rfl⟩⟩; (try first | exact ⟨rfl, _, World.drewN_drewN _ _ _⟩ | exact ⟨rfl, _, Eq.trans (World.drewN_drewN _ _ _) (congrArg (World.drewN _) (Nat.add_assoc _ _ _))⟩))); try go_wp2_with (first | (go_at_call 32; (with_reducible refine (spec_l01Fits.calls (rd l1 0) 2 false _ A56.out).mono ?_); rintro e w' ⟨rfl, ⟨nd, rfl⟩⟩; (try first | exact ⟨rfl, _, World.drewN_drewN _ _ _⟩ | exact ⟨rfl, _, Eq.trans (World.drewN_drewN _ _ _) (congrArg (World.drewN _) (Nat.add_assoc _ _ _))⟩))))
                                      go_ret
                                      exact ⟨by first | rfl | (simp; done) | (simp [*]; done), by repeat (first | exact Drawn0.refl _ | apply Drawn0.step)⟩
                                  · rw [if_neg c55] at H
                                    exact absurd H (by simp)
                                · rw [if_neg c54] at H
                                  have c54b0 : ((l1.length : Int) == 1) = false := beq_eq_false_iff_ne.mpr c54
                                  have c54b1 : ((l1.length : Int) != 1) = true := bne_iff_ne.mpr c54
                                  obtain rfl := Option.some.inj H
                                  go_wp2
                                  repeat (go_quiet (fail); try go_wp2)
                                  go_ret
                                  exact ⟨by first | rfl | (simp; done) | (simp [*]; done), by repeat (first | exact Drawn0.refl _ | apply Drawn0.step)⟩
                              · rw [if_neg c53] at H
                                have c53b0 : (a0 == 10) = false := beq_eq_false_iff_ne.mpr c53
                                have c53b1 : (a0 != 10) = true := bne_iff_ne.mpr c53
                                have HC58 := Aside0.mk H
                                clear H
                                go_upto_if 126 with (fail)
                                repeat (go_quiet (fail); go_upto_if 126 with (fail))
                                go_cut [126] (fun v126 wc => ∃ (kq : Nat) (x126_57 : Bool), v126 = .bool x126_57 ∧ Aside0 (spec_CallKind.j3 kq l1 (l1.length : Int) x126_57 = some r) ∧ Aside0 (kq ≤ kj44) ∧ Drawn0 w wc)
                                case first =>
                                  have H := HC58.out
                                  clear HC58
                                  by_cases c59 : a0 = 12
                                  · rw [if_pos c59] at H
                                    have c59b0 : (a0 == 12) = true := beq_iff_eq.mpr c59
                                    have c59b1 : (a0 != 12) = false := bne_eq_false_iff_eq.mpr c59
                                    clear c59
                                    (first | rw [c59b0] | (simp only [i64_w, i32_w]; rw [c59b0]) | skip)
                                    have H' := Aside0.mk H
                                    clear H
                                    go_wp2
                                    repeat (go_quiet (fail); try go_wp2)
                                    go_meet
                                    case rel => exact ⟨_, ((a0 == 12)), (by first | rfl | (simp; done) | (simp [*]; done)), H', ⟨by have := HK1.out; have := HJ19.out; have := HJ44.out; first | omega | exact Nat.le_refl _⟩, by repeat (first | exact Drawn0.refl _ | apply Drawn0.step)⟩
                                  · rw [if_neg c59] at H
                                    have c59b0 : (a0 == 12) = false := beq_eq_false_iff_ne.mpr c59
                                    have c59b1 : (a0 != 12) = true := bne_iff_ne.mpr c59
                                    (first | rw [c59b0] | (simp only [i64_w, i32_w]; rw [c59b0]) | skip)
                                    have H' := Aside0.mk H
                                    clear H
                                    go_wp2
                                    repeat (go_quiet (fail); try go_wp2)
                                    go_meet
                                    case rel => exact ⟨_, ((a0 == 13)), (by first | rfl | (simp; done) | (simp [*]; done)), H', ⟨by have := HK1.out; have := HJ19.out; have := HJ44.out; first | omega | exact Nat.le_refl _⟩, by repeat (first | exact Drawn0.refl _ | apply Drawn0.step)⟩
                                case rest =>
                                  clear HC58
                                  try clear c1
                                  try clear p1
                                  try clear q1
                                  try clear hx1
                                  try clear qi1
                                  try clear c2
                                  try clear p2
                                  try clear c3
                                  try clear c3b0
                                  try clear c3b1
                                  try clear c4
                                  try clear c4b0
                                  try clear c5
                                  try clear c5b0
                                  try clear c6
                                  try clear c6b0
                                  try clear p6
                                  try clear c8
                                  try clear c9
                                  try clear c9b0
                                  try clear c9b1
                                  try clear c10
                                  try clear c10b0
                                  try clear c10b1
                                  try clear p10
                                  try clear q10
                                  try clear hx10
                                  try clear c11
                                  try clear c11b0
                                  try clear c11b1
                                  try clear p11
                                  try clear q11
                                  try clear hx11
                                  try clear qi11
                                  try clear c12
                                  try clear c12b0
                                  try clear c12b1
                                  try clear p12
                                  try clear q12
                                  try clear hx12
                                  try clear qi12
                                  try clear p13
                                  try clear q13
                                  try clear hx13
                                  try clear qi13
                                  try clear c14
                                  try clear c15
                                  try clear c15b0
                                  try clear c15b1
                                  try clear c16
                                  try clear c16b0
                                  try clear c16b1
                                  try clear c17
                                  try clear c17b0
                                  try clear c17b1
                                  try clear c19
                                  try clear c21
                                  try clear c21b0
                                  try clear c21b1
                                  try clear c22
                                  try clear c22b0
                                  try clear c22b1
                                  try clear c23
                                  try clear c24
                                  try clear c24b0
                                  try clear c24b1
                                  try clear c25
                                  try clear c25b0
                                  try clear c25b1
                                  try clear c27
                                  try clear c28
                                  try clear c28b0
                                  try clear c28b1
                                  try clear c29
                                  try clear c29b0
                                  try clear c29b1
                                  try clear c30
                                  try clear c30b0
                                  try clear c30b1
                                  try clear c32
                                  try clear c33
                                  try clear c33b0
                                  try clear c33b1
                                  try clear c35
                                  try clear c36
                                  try clear c36b0
                                  try clear c36b1
                                  try clear c38
                                  try clear c39
                                  try clear c39b0
                                  try clear c39b1
                                  try clear c40
                                  try clear c40b0
                                  try clear c40b1
                                  try clear c41
                                  try clear c41b0
                                  try clear c41b1
                                  try clear c42
                                  try clear c42b0
                                  try clear c42b1
                                  try clear c44
                                  try clear c44b0
                                  try clear c46
                                  try clear c46b0
                                  try clear c46b1
                                  try clear c47
                                  try clear c47b0
                                  try clear c47b1
                                  try clear c48
                                  try clear c49
                                  try clear c49b0
                                  try clear c49b1
                                  try clear c50
                                  try clear c50b0
                                  try clear c50b1
                                  try clear c52
                                  try clear c53
                                  try clear c53b0
                                  try clear c53b1
                                  try clear c54
                                  try clear c54b0
                                  try clear c54b1
                                  try clear c55
                                  try clear c55b0
                                  try clear c55b1
                                  try clear c57
                                  try clear c59
                                  try clear c59b0
                                  try clear c59b1
                                  try clear hx108_0
                                  try clear hx110_0
                                  try clear hx111_0
                                  try clear hx112_0
                                  try clear hx114_0
                                  try clear hx115_0
                                  try clear hx117_0
                                  try clear hx119_0
                                  try clear hx121_0
                                  try clear hx123_0
                                  try clear hx125_0
                                  try clear hx126_0
                                  try clear hx128_0
                                  try clear hx129_0
                                  try clear hx131_0
                                  try clear p1
                                  try clear p10
                                  try clear p108
                                  try clear p11
                                  try clear p110
                                  try clear p111
                                  try clear p112
                                  try clear p114
                                  try clear p115
                                  try clear p117
                                  try clear p119
                                  try clear p12
                                  try clear p121
                                  try clear p123
                                  try clear p125
                                  try clear p126
                                  try clear p128
                                  try clear p129
                                  try clear p131
                                  try clear p2
                                  try clear p6
                                  try clear q1
                                  try clear q10
                                  try clear q108
                                  try clear q11
                                  try clear q110
                                  try clear q111
                                  try clear q112
                                  try clear q114
                                  try clear q115
                                  try clear q117
                                  try clear q119
                                  try clear q12
                                  try clear q121
                                  try clear q123
                                  try clear q125
                                  try clear q126
                                  try clear q128
                                  try clear q129
                                  try clear q131
                                  obtain ⟨kq, x126_57, rfl, HA, HJ57, ⟨mc57, rfl⟩⟩ := hcut
                                  cases kq with
                                  | zero => exact absurd HA.out (by simp [spec_CallKind.j3])
                                  | succ kj57 =>
                                    have H := HA.out
                                    clear HA
                                    simp only [spec_CallKind.j3] at H
                                    by_cases c60 : x126_57 = true
                                    · subst c60
                                      have H1 : (if (l1.length : Int) = 2 then (if 1 < (l1.length : Int) then (if 0 < (l1.length : Int) then ((spec_l01Fits.f (rd l1 1) (rd l1 0)).bind fun t135 => (spec_CallKind.j4 kj57 l1 (l1.length : Int) t135)) else (none)) else (none)) else (spec_CallKind.j4 kj57 l1 (l1.length : Int) false)) = some r := by rw [if_pos rfl] at H; exact H
                                      clear H
                                      have H := H1
                                      clear H1
                                      have HC61 := Aside0.mk H
                                      clear H
                                      go_upto_region 38 with (fail)
                                      repeat (go_quiet (fail); go_upto_region 38 with (fail))
                                      go_cut [139] (fun v139 wc => ∃ (kq : Nat) (x139_60 : Bool), v139 = .bool x139_60 ∧ Aside0 (spec_CallKind.j4 kq l1 (l1.length : Int) x139_60 = some r) ∧ Aside0 (kq ≤ kj57) ∧ Drawn0 w wc)
                                      case first =>
                                        have H := HC61.out
                                        clear HC61
                                        by_cases c62 : (l1.length : Int) = 2
                                        · rw [if_pos c62] at H
                                          have c62b0 : ((l1.length : Int) == 2) = true := beq_iff_eq.mpr c62
                                          have c62b1 : ((l1.length : Int) != 2) = false := bne_eq_false_iff_eq.mpr c62
                                          clear c62
                                          (first | rw [c62b0] | (simp only [i64_w, i32_w]; rw [c62b0]) | skip)
                                          by_cases c63 : 1 < (l1.length : Int)
                                          · rw [if_pos c63] at H
                                            have c63b0 : decide (1 < (l1.length : Int)) = true := decide_eq_true c63
                                            have c63b1 : decide (1 < l1.length) = true := decide_eq_true (by omega)
                                            clear c63
                                            by_cases c64 : 0 < (l1.length : Int)
                                            · rw [if_pos c64] at H
                                              have c64b0 : decide (0 < (l1.length : Int)) = true := decide_eq_true c64
                                              have c64b1 : decide (0 < l1.length) = true := decide_eq_true (by omega)
                                              clear c64
                                              replace H := Option.bind_eq_some_iff.mp H
                                              obtain ⟨t135, A650, H⟩ := H
                                              replace H : (spec_CallKind.j4 kj57 l1 (l1.length : Int) t135) = some r := H
                                              have A65 := Aside0.mk A650
                                              clear A650
                                              have H' := Aside0.mk H
                                              clear H
                                              have p133 : 0 ≤ (1 : Int) := (by omega)
                                              have q133 : 1 < (l1.length : Int) := of_decide_eq_true (by first | (with_reducible assumption) | assumption)
                                              obtain ⟨ad133, e133, hx133_0⟩ := Kd.at_int HR1.out 1 p133 q133
                                              cases e133
                                              (try simp only [show (1 : Int).toNat = 1 from rfl, Nat.reduceMul, Nat.reduceEqDiff, Go.Addr.add, ↓reduceIte] at hx133_0)
                                              have qi133 : (1 < l1.length) = True := eq_true (by omega)
                                              (try rw [show ((1 : Int)).toNat = 1 from rfl] at hx133_0)
                                              replace p133 := eq_true p133
                                              replace q133 := eq_true q133
                                              have p134 : 0 ≤ (0 : Int) := (by omega)
                                              have q134 : 0 < (l1.length : Int) := of_decide_eq_true (by first | (with_reducible assumption) | assumption)
                                              obtain ⟨ad134, e134, hx134_0⟩ := Kd.at_int HR1.out 0 p134 q134
                                              obtain rfl : ad133 = ad134 := (by injection e134)
                                              have qi134 : (0 < l1.length) = True := eq_true (by omega)
                                              (try rw [show ((0 : Int)).toNat = 0 from rfl] at hx134_0)
                                              (try rw [Addr.add_zero'] at hx134_0)
                                              replace p134 := eq_true p134
                                              replace q134 := eq_true q134
                                              go_wp2_with (first | (go_at_call 32; (with_reducible refine (spec_l01Fits.calls (rd l1 1) (rd l1 0) t135 _ A65.out).mono ?_); rintro e w' ⟨rfl, ⟨nd, rfl⟩⟩; (try first | exact ⟨rfl, _, World.drewN_drewN _ _ _⟩ | exact ⟨rfl, _, Eq.trans (World.drewN_drewN _ _ _) (congrArg (World.drewN _) (Nat.add_assoc _ _ _))⟩)))
                                              repeat (go_quiet (first | (go_at_call 32; (with_reducible refine (spec_l01Fits.calls (rd l1 1) (rd l1 0) t135 _ A65.out).mono ?_); rintro e w' ⟨rfl, ⟨nd, rfl⟩⟩; (try first | exact ⟨rfl, _, World.drewN_drewN _ _ _⟩ | exact ⟨rfl, _, Eq.trans (World.drewN_drewN _ _ _) (congrArg (World.drewN _) (Nat.add_assoc _ _ _))⟩))); try go_wp2_with (first | (go_at_call 32; (with_reducible refine (spec_l01Fits.calls (rd l1 1) (rd l1 0) t135 _ A65.out).mono ?_); rintro e w' ⟨rfl, ⟨nd, rfl⟩⟩; (try first | exact ⟨rfl, _, World.drewN_drewN _ _ _⟩ | exact ⟨rfl, _, Eq.trans (World.drewN_drewN _ _ _) (congrArg (World.drewN _) (Nat.add_assoc _ _ _))⟩))))
                                              go_meet
                                              case rel => exact ⟨_, (t135), (by first | rfl | (simp; done) | (simp [*]; done)), H', ⟨by have := HK1.out; have := HJ19.out; have := HJ44.out; have := HJ57.out; first | omega | exact Nat.le_refl _⟩, by repeat (first | exact Drawn0.refl _ | apply Drawn0.step)⟩
                                            · rw [if_neg c64] at H
                                              exact absurd H (by simp)
                                          · rw [if_neg c63] at H
                                            exact absurd H (by simp)
                                        · rw [if_neg c62] at H
                                          have c62b0 : ((l1.length : Int) == 2) = false := beq_eq_false_iff_ne.mpr c62
                                          have c62b1 : ((l1.length : Int) != 2) = true := bne_iff_ne.mpr c62
                                          (first | rw [c62b0] | (simp only [i64_w, i32_w]; rw [c62b0]) | skip)
                                          have H' := Aside0.mk H
                                          clear H
                                          go_wp2
                                          repeat (go_quiet (fail); try go_wp2)
                                          go_meet
                                          case rel => exact ⟨_, (false), (by first | rfl | (simp; done) | (simp [*]; done)), H', ⟨by have := HK1.out; have := HJ19.out; have := HJ44.out; have := HJ57.out; first | omega | exact Nat.le_refl _⟩, by repeat (first | exact Drawn0.refl _ | apply Drawn0.step)⟩
                                      case rest =>
                                        clear HC61
                                        try clear c1
                                        try clear p1
                                        try clear q1
                                        try clear hx1
                                        try clear qi1
                                        try clear c2
                                        try clear p2
                                        try clear c3
                                        try clear c3b0
                                        try clear c3b1
                                        try clear c4
                                        try clear c4b0
                                        try clear c5
                                        try clear c5b0
                                        try clear c6
                                        try clear c6b0
                                        try clear p6
                                        try clear c8
                                        try clear c9
                                        try clear c9b0
                                        try clear c9b1
                                        try clear c10
                                        try clear c10b0
                                        try clear c10b1
                                        try clear p10
                                        try clear q10
                                        try clear hx10
                                        try clear c11
                                        try clear c11b0
                                        try clear c11b1
                                        try clear p11
                                        try clear q11
                                        try clear hx11
                                        try clear qi11
                                        try clear c12
                                        try clear c12b0
                                        try clear c12b1
                                        try clear p12
                                        try clear q12
                                        try clear hx12
                                        try clear qi12
                                        try clear p13
                                        try clear q13
                                        try clear hx13
                                        try clear qi13
                                        try clear c14
                                        try clear c15
                                        try clear c15b0
                                        try clear c15b1
                                        try clear c16
                                        try clear c16b0
                                        try clear c16b1
                                        try clear c17
                                        try clear c17b0
                                        try clear c17b1
                                        try clear c19
                                        try clear c21
                                        try clear c21b0
                                        try clear c21b1
                                        try clear c22
                                        try clear c22b0
                                        try clear c22b1
                                        try clear c23
                                        try clear c24
                                        try clear c24b0
                                        try clear c24b1
                                        try clear c25
                                        try clear c25b0
                                        try clear c25b1
                                        try clear c27
                                        try clear c28
                                        try clear c28b0
                                        try clear c28b1
                                        try clear c29
                                        try clear c29b0
                                        try clear c29b1
                                        try clear c30
                                        try clear c30b0
                                        try clear c30b1
                                        try clear c32
                                        try clear c33
                                        try clear c33b0
                                        try clear c33b1
                                        try clear c35
                                        try clear c36
                                        try clear c36b0
                                        try clear c36b1
                                        try clear c38
                                        try clear c39
                                        try clear c39b0
                                        try clear c39b1
                                        try clear c40
                                        try clear c40b0
                                        try clear c40b1
                                        try clear c41
                                        try clear c41b0
                                        try clear c41b1
                                        try clear c42
                                        try clear c42b0
                                        try clear c42b1
                                        try clear c44
                                        try clear c44b0
                                        try clear c46
                                        try clear c46b0
                                        try clear c46b1
                                        try clear c47
                                        try clear c47b0
                                        try clear c47b1
                                        try clear c48
                                        try clear c49
                                        try clear c49b0
                                        try clear c49b1
                                        try clear c50
                                        try clear c50b0
                                        try clear c50b1
                                        try clear c52
                                        try clear c53
                                        try clear c53b0
                                        try clear c53b1
                                        try clear c54
                                        try clear c54b0
                                        try clear c54b1
                                        try clear c55
                                        try clear c55b0
                                        try clear c55b1
                                        try clear c57
                                        try clear c59
                                        try clear c59b0
                                        try clear c59b1
                                        try clear c60
                                        try clear c62
                                        try clear c62b0
                                        try clear c62b1
                                        try clear c63
                                        try clear c63b0
                                        try clear c63b1
                                        try clear c64
                                        try clear c64b0
                                        try clear c64b1
                                        try clear hx108_0
                                        try clear hx110_0
                                        try clear hx111_0
                                        try clear hx112_0
                                        try clear hx114_0
                                        try clear hx115_0
                                        try clear hx117_0
                                        try clear hx119_0
                                        try clear hx121_0
                                        try clear hx123_0
                                        try clear hx125_0
                                        try clear hx126_0
                                        try clear hx128_0
                                        try clear hx129_0
                                        try clear hx131_0
                                        try clear hx133_0
                                        try clear hx134_0
                                        try clear p1
                                        try clear p10
                                        try clear p108
                                        try clear p11
                                        try clear p110
                                        try clear p111
                                        try clear p112
                                        try clear p114
                                        try clear p115
                                        try clear p117
                                        try clear p119
                                        try clear p12
                                        try clear p121
                                        try clear p123
                                        try clear p125
                                        try clear p126
                                        try clear p128
                                        try clear p129
                                        try clear p13
                                        try clear p131
                                        try clear p133
                                        try clear p134
                                        try clear p2
                                        try clear p6
                                        try clear q1
                                        try clear q10
                                        try clear q108
                                        try clear q11
                                        try clear q110
                                        try clear q111
                                        try clear q112
                                        try clear q114
                                        try clear q115
                                        try clear q117
                                        try clear q119
                                        try clear q12
                                        try clear q121
                                        try clear q123
                                        try clear q125
                                        try clear q126
                                        try clear q128
                                        try clear q129
                                        try clear q13
                                        try clear q131
                                        try clear q133
                                        try clear q134
                                        obtain ⟨kq, x139_60, rfl, HA, HJ60, ⟨mc60, rfl⟩⟩ := hcut
                                        cases kq with
                                        | zero => exact absurd HA.out (by simp [spec_CallKind.j4])
                                        | succ kj60 =>
                                          have H := HA.out
                                          clear HA
                                          simp only [spec_CallKind.j4] at H
                                          by_cases c66 : x139_60 = true
                                          · subst c66
                                            have H1 : (if 0 < (l1.length : Int) then (some (rd l1 0)) else (none)) = some r := by rw [if_pos rfl] at H; exact H
                                            clear H
                                            have H := H1
                                            clear H1
                                            by_cases c67 : 0 < (l1.length : Int)
                                            · rw [if_pos c67] at H
                                              have c67b0 : decide (0 < (l1.length : Int)) = true := decide_eq_true c67
                                              have c67b1 : decide (0 < l1.length) = true := decide_eq_true (by omega)
                                              clear c67
                                              obtain rfl := Option.some.inj H
                                              have p136 : 0 ≤ (0 : Int) := (by omega)
                                              have q136 : 0 < (l1.length : Int) := of_decide_eq_true (by first | (with_reducible assumption) | assumption)
                                              obtain ⟨ad136, e136, hx136_0⟩ := Kd.at_int HR1.out 0 p136 q136
                                              cases e136
                                              have qi136 : (0 < l1.length) = True := eq_true (by omega)
                                              (try rw [show ((0 : Int)).toNat = 0 from rfl] at hx136_0)
                                              (try rw [Addr.add_zero'] at hx136_0)
                                              replace p136 := eq_true p136
                                              replace q136 := eq_true q136
                                              go_wp2
                                              repeat (go_quiet (fail); try go_wp2)
                                              go_ret
                                              exact ⟨by first | rfl | (simp; done) | (simp [*]; done), by repeat (first | exact Drawn0.refl _ | apply Drawn0.step)⟩
                                            · rw [if_neg c67] at H
                                              exact absurd H (by simp)
                                          · replace c66 := Bool.eq_false_iff.mpr c66
                                            subst c66
                                            have H1 : (if (l1.length : Int) = 2 then (if 0 < (l1.length : Int) then (if (rd l1 0) = 0 then (if 1 < (l1.length : Int) then (some (rd l1 1)) else (none)) else (some (-1))) else (none)) else (some (-1))) = some r := by rw [if_neg (show ¬ (false = true) by decide)] at H; exact H
                                            clear H
                                            have H := H1
                                            clear H1
                                            by_cases c68 : (l1.length : Int) = 2
                                            · rw [if_pos c68] at H
                                              have c68b0 : ((l1.length : Int) == 2) = true := beq_iff_eq.mpr c68
                                              have c68b1 : ((l1.length : Int) != 2) = false := bne_eq_false_iff_eq.mpr c68
                                              clear c68
                                              by_cases c69 : 0 < (l1.length : Int)
                                              · rw [if_pos c69] at H
                                                have c69b0 : decide (0 < (l1.length : Int)) = true := decide_eq_true c69
                                                have c69b1 : decide (0 < l1.length) = true := decide_eq_true (by omega)
                                                clear c69
                                                by_cases c70 : (rd l1 0) = 0
                                                · rw [if_pos c70] at H
                                                  have c70b0 : ((rd l1 0) == 0) = true := beq_iff_eq.mpr c70
                                                  have c70b1 : ((rd l1 0) != 0) = false := bne_eq_false_iff_eq.mpr c70
                                                  clear c70
                                                  by_cases c71 : 1 < (l1.length : Int)
                                                  · rw [if_pos c71] at H
                                                    have c71b0 : decide (1 < (l1.length : Int)) = true := decide_eq_true c71
                                                    have c71b1 : decide (1 < l1.length) = true := decide_eq_true (by omega)
                                                    clear c71
                                                    obtain rfl := Option.some.inj H
                                                    have p137 : 0 ≤ (0 : Int) := (by omega)
                                                    have q137 : 0 < (l1.length : Int) := of_decide_eq_true (by first | (with_reducible assumption) | assumption)
                                                    obtain ⟨ad137, e137, hx137_0⟩ := Kd.at_int HR1.out 0 p137 q137
                                                    cases e137
                                                    have qi137 : (0 < l1.length) = True := eq_true (by omega)
                                                    (try rw [show ((0 : Int)).toNat = 0 from rfl] at hx137_0)
                                                    (try rw [Addr.add_zero'] at hx137_0)
                                                    replace p137 := eq_true p137
                                                    replace q137 := eq_true q137
                                                    have p138 : 0 ≤ (1 : Int) := (by omega)
                                                    have q138 : 1 < (l1.length : Int) := of_decide_eq_true (by first | (with_reducible assumption) | assumption)
                                                    obtain ⟨ad138, e138, hx138_0⟩ := Kd.at_int HR1.out 1 p138 q138
                                                    obtain rfl : ad137 = ad138 := (by injection e138)
                                                    (try simp only [show (1 : Int).toNat = 1 from rfl, Nat.reduceMul, Nat.reduceEqDiff, Go.Addr.add, ↓reduceIte] at hx138_0)
                                                    have qi138 : (1 < l1.length) = True := eq_true (by omega)
                                                    (try rw [show ((1 : Int)).toNat = 1 from rfl] at hx138_0)
                                                    replace p138 := eq_true p138
                                                    replace q138 := eq_true q138
                                                    go_wp2
                                                    repeat (go_quiet (fail); try go_wp2)
                                                    go_ret
                                                    exact ⟨by first | rfl | (simp; done) | (simp [*]; done), by repeat (first | exact Drawn0.refl _ | apply Drawn0.step)⟩
                                                  · rw [if_neg c71] at H
                                                    exact absurd H (by simp)
                                                · rw [if_neg c70] at H
                                                  have c70b0 : ((rd l1 0) == 0) = false := beq_eq_false_iff_ne.mpr c70
                                                  have c70b1 : ((rd l1 0) != 0) = true := bne_iff_ne.mpr c70
                                                  obtain rfl := Option.some.inj H
                                                  have p137 : 0 ≤ (0 : Int) := (by omega)
                                                  have q137 : 0 < (l1.length : Int) := of_decide_eq_true (by first | (with_reducible assumption) | assumption)
                                                  obtain ⟨ad137, e137, hx137_0⟩ := Kd.at_int HR1.out 0 p137 q137
                                                  cases e137
                                                  have qi137 : (0 < l1.length) = True := eq_true (by omega)
                                                  (try rw [show ((0 : Int)).toNat = 0 from rfl] at hx137_0)
                                                  (try rw [Addr.add_zero'] at hx137_0)
                                                  replace p137 := eq_true p137
                                                  replace q137 := eq_true q137
                                                  go_wp2
                                                  repeat (go_quiet (fail); try go_wp2)
                                                  go_ret
                                                  exact ⟨by first | rfl | (simp; done) | (simp [*]; done), by repeat (first | exact Drawn0.refl _ | apply Drawn0.step)⟩
                                              · rw [if_neg c69] at H
                                                exact absurd H (by simp)
                                            · rw [if_neg c68] at H
                                              have c68b0 : ((l1.length : Int) == 2) = false := beq_eq_false_iff_ne.mpr c68
                                              have c68b1 : ((l1.length : Int) != 2) = true := bne_iff_ne.mpr c68
                                              obtain rfl := Option.some.inj H
                                              go_wp2
                                              repeat (go_quiet (fail); try go_wp2)
                                              go_ret
                                              exact ⟨by first | rfl | (simp; done) | (simp [*]; done), by repeat (first | exact Drawn0.refl _ | apply Drawn0.step)⟩
                                    · replace c60 := Bool.eq_false_iff.mpr c60
                                      subst c60
                                      have H1 : (some (-1)) = some r := by rw [if_neg (show ¬ (false = true) by decide)] at H; exact H
                                      clear H
                                      have H := H1
                                      clear H1
                                      obtain rfl := Option.some.inj H
                                      go_wp2
                                      repeat (go_quiet (fail); try go_wp2)
                                      go_ret
                                      exact ⟨by first | rfl | (simp; done) | (simp [*]; done), by repeat (first | exact Drawn0.refl _ | apply Drawn0.step)⟩

end Go.Proofs.Ytimngliodeefjaa.QFnExactCallKind
