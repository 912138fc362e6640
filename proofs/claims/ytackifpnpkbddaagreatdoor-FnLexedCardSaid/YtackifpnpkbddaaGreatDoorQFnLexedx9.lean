-- Laid by a program of the session's own (wip/tools/mp.py); not the kit's print.
import Derived.Test.YtackifpnpkbddaaGreatDoorQFnLexedx0
namespace Go.Proofs.YtackifpnpkbddaaGreatDoor.QFnLexed
open Go.RowKit Go.Proofs.YtackifpnpkbddaaGreatDoorW.PrintWords Go.Proofs.YtackifpnpkbddaaGreatDoorW.PrintLast Go.Proofs.YtackifpnpkbddaaGreatDoorW.PrintMore Go.Proofs.YtackifpnpkbddaaGreatDoorScan
attribute [local go_sem] max2_int min2_int max_two min_two max_three min_three max_four min_four   -- for this text's walks alone
set_option linter.unusedVariables false
set_option linter.unusedSimpArgs false

/-! ### stringslite_HasPrefix: function 40 -/
def stringslite_HasPrefix.f (a0 : ByteArray) (a1 : ByteArray) : Option (Bool) := if (a0.size : Int) ≥ (a1.size : Int) then (if 0 ≤ (a1.size : Int) then (if (a1.size : Int) ≤ (a0.size : Int) then (some ((a0.extract 0 ((a1.size : Int) : Int).toNat).toList == a1.toList)) else (none)) else (none)) else (some false)
set_option maxHeartbeats 8000000 in
set_option maxRecDepth 100000 in
theorem stringslite_HasPrefix.calls (a0 : ByteArray) (a1 : ByteArray) (r : Bool) (w : World) (h : stringslite_HasPrefix.f a0 a1 = some r) :
  Calls Tryz.prog 40 #[.string a0, .string a1] w fun e w' => e = .returned (.bool r) ∧ Drawn0 w w' := by
 have H : (if (a0.size : Int) ≥ (a1.size : Int) then (if 0 ≤ (a1.size : Int) then (if (a1.size : Int) ≤ (a0.size : Int) then (some ((a0.extract 0 ((a1.size : Int) : Int).toNat).toList == a1.toList)) else (none)) else (none)) else (some false)) = some r := h; clear h
 by_cases c3 : (a0.size : Int) ≥ (a1.size : Int)
 ·rw [if_pos c3] at H; have c3b0 : decide ((a1.size : Int) ≤ (a0.size : Int)) = true := decide_eq_true c3; have c3b1 : decide (a1.size ≤ a0.size) = true := decide_eq_true (Int.ofNat_le.mp c3); clear c3
  by_cases c4 : 0 ≤ (a1.size : Int)
  ·rw [if_pos c4] at H; have c4b0 := eq_true c4; have c4b1 : decide (0 ≤ (a1.size : Int)) = true := decide_eq_true c4; clear c4
   by_cases c5 : (a1.size : Int) ≤ (a0.size : Int)
   ·rw [if_pos c5] at H; have c5b0 := eq_true c5; have c5b1 : decide ((a1.size : Int) ≤ (a0.size : Int)) = true := decide_eq_true c5; clear c5; obtain rfl := Option.some.inj H
    go_enter Tryz.func40, Tryz.ntmps40
    go_wp2
    go_ret
    exact ⟨by first | rfl | (simp; done) | (simp [*]; done), by repeat (first | exact Drawn0.refl _ | apply Drawn0.step)⟩
   ·rw [if_neg c5] at H; exact absurd H (by simp)
  ·rw [if_neg c4] at H; exact absurd H (by simp)
 ·rw [if_neg c3] at H; have c3b0 : decide ((a1.size : Int) ≤ (a0.size : Int)) = false := decide_eq_false c3; have c3b1 : decide (a1.size ≤ a0.size) = false := decide_eq_false (fun h => c3 (Int.ofNat_le.mpr h)); clear c3; obtain rfl := Option.some.inj H
  go_enter Tryz.func40, Tryz.ntmps40
  go_wp2
  go_ret
  exact ⟨by first | rfl | (simp; done) | (simp [*]; done), by repeat (first | exact Drawn0.refl _ | apply Drawn0.step)⟩

/-! ### strings_HasPrefix: function 24 -/
def strings_HasPrefix.f (a0 : ByteArray) (a1 : ByteArray) : Option (Bool) := (stringslite_HasPrefix.f a0 a1).bind fun t400 => (some t400)
set_option maxHeartbeats 8000000 in
set_option maxRecDepth 100000 in
theorem strings_HasPrefix.calls (a0 : ByteArray) (a1 : ByteArray) (r : Bool) (w : World) (h : strings_HasPrefix.f a0 a1 = some r) :
  Calls Tryz.prog 24 #[.string a0, .string a1] w fun e w' => e = .returned (.bool r) ∧ Drawn0 w w' := by
 have H : ((stringslite_HasPrefix.f a0 a1).bind fun t400 => (some t400)) = some r := h; clear h; replace H := Option.bind_eq_some_iff.mp H; obtain ⟨t400, A30, H⟩ := H; replace H : (some t400) = some r := H; have A3 := sd A30; clear A30; obtain rfl := Option.some.inj H
 go_enter Tryz.func24, Tryz.ntmps24
 go_wp2_with (first | ((with_reducible refine gate_callee (f := 40) rfl ?_); refine goesL_ (some 7) rfl rfl Tryz.func40 (by kernel_rfl) rfl #[.string a0, .string a1] rfl (by (try simp only [List.map_toArray, List.map_cons, List.map_nil]); first | done | rfl) ?_; (with_reducible refine (stringslite_HasPrefix.calls a0 a1 t400 _ A3.out).mono ?_); rintro e w' ⟨rfl, ⟨nd, rfl⟩⟩; refine ⟨_, rfl, ?_⟩))
 go_ret
 exact ⟨by first | rfl | (simp; done) | (simp [*]; done), by repeat (first | exact Drawn0.refl _ | apply Drawn0.step)⟩

/-! ### impl_Lex: function 11 -/
mutual
def impl_Lex.l0 : Nat → ByteArray → List (S35) → Int → Option ((List (S35)) × Int × Int)
 | 0, _, _, _ => none
 | k + 1, x0, x5, x6 => if x6 < (x0.size : Int) then (if 0 ≤ x6 then (if (bt x0 x6) = 32 then (impl_Lex.j1 k x0 x5 x6 true) else (if (bt x0 x6) = 9 then (impl_Lex.j1 k x0 x5 x6 true) else (if (bt x0 x6) = 10 then (impl_Lex.j1 k x0 x5 x6 true) else (impl_Lex.j1 k x0 x5 x6 ((bt x0 x6) == 13))))) else (none)) else (some (x5, 0, 0))
def impl_Lex.j1 : Nat → ByteArray → List (S35) → Int → Bool → Option ((List (S35)) × Int × Int)
 | 0, _, _, _, _ => none
 | k + 1, x0, x5, x6, x22 => if x22 = true then (impl_Lex.l0 k x0 x5 (wrap64 (x6 + 1))) else (if 0 ≤ x6 then (if x6 ≤ (x0.size : Int) then ((strings_HasPrefix.f (x0.extract (x6 : Int).toNat x0.size) (⟨#[45, 45]⟩ : ByteArray)).bind fun t401 => (if t401 = true then (impl_Lex.l1 k x0 x5 x6) else (if (x5.length : Int) = 2000 then (some (([] : List (S35)), 5, x6)) else ((impl_scan.f (x0.extract (x6 : Int).toNat x0.size)).bind fun bt402 => (if bt402.2.2.2.2.1 = 0 then (if x5.length < 4398046511104 then (impl_Lex.l0 k x0 (x5 ++ [(⟨bt402.1, bt402.2.1, x6⟩ : S35)]) (wrap64 (x6 + bt402.2.2.2.1))) else (none)) else (some (([] : List (S35)), bt402.2.2.2.2.1, wrap64 (x6 + bt402.2.2.2.2.2)))))))) else (none)) else (none))
def impl_Lex.l1 : Nat → ByteArray → List (S35) → Int → Option ((List (S35)) × Int × Int)
 | 0, _, _, _ => none
 | k + 1, x0, x5, x6 => if x6 < (x0.size : Int) then (if 0 ≤ x6 then (if (bt x0 x6) = 10 then (impl_Lex.l0 k x0 x5 x6) else (impl_Lex.l1 k x0 x5 (wrap64 (x6 + 1)))) else (none)) else (impl_Lex.l0 k x0 x5 x6)
end
def impl_Lex.f (k : Nat) (a0 : ByteArray) : Option ((List (S35)) × Int × Int) := if (a0.size : Int) > 8000 then (some (([] : List (S35)), 5, 0)) else (impl_Lex.l0 k a0 ([] : List (S35)) 0)
theorem impl_Lex.mono_l : ∀ k, (∀ y0 y1 y2, LeO (impl_Lex.l0 k y0 y1 y2) (impl_Lex.l0 (k + 1) y0 y1 y2)) ∧ (∀ y0 y1 y2 y3, LeO (impl_Lex.j1 k y0 y1 y2 y3) (impl_Lex.j1 (k + 1) y0 y1 y2 y3)) ∧ (∀ y0 y1 y2, LeO (impl_Lex.l1 k y0 y1 y2) (impl_Lex.l1 (k + 1) y0 y1 y2))
 | 0 => ⟨fun _ _ _ r h => by simp [impl_Lex.l0] at h, fun _ _ _ _ r h => by simp [impl_Lex.j1] at h, fun _ _ _ r h => by simp [impl_Lex.l1] at h⟩
 | k + 1 => by
  obtain ⟨ih0, ih1, ih2⟩ := impl_Lex.mono_l k
  refine ⟨?_, ?_, ?_⟩
  ·intro y0 y1 y2
   unfold impl_Lex.l0
   repeat' first
   | (with_reducible exact ih0 _ _ _)
   | (with_reducible exact ih1 _ _ _ _)
   | (with_reducible exact ih2 _ _ _)
   | (with_reducible exact LeO.refl _)
   | (with_reducible exact LeO.none _)
   | (with_reducible refine LeO.ite ?_ ?_)
   | (with_reducible refine LeO.bind ?_ (fun _ => ?_))
   | exact ih0 _ _ _
   | exact ih1 _ _ _ _
   | exact ih2 _ _ _
   | exact LeO.none _
   | refine LeO.ite ?_ ?_
   | refine LeO.bind ?_ (fun _ => ?_)
  ·intro y0 y1 y2 y3
   unfold impl_Lex.j1
   repeat' first
   | (with_reducible exact ih0 _ _ _)
   | (with_reducible exact ih1 _ _ _ _)
   | (with_reducible exact ih2 _ _ _)
   | (with_reducible exact LeO.refl _)
   | (with_reducible exact LeO.none _)
   | (with_reducible refine LeO.ite ?_ ?_)
   | (with_reducible refine LeO.bind ?_ (fun _ => ?_))
   | exact ih0 _ _ _
   | exact ih1 _ _ _ _
   | exact ih2 _ _ _
   | exact LeO.none _
   | refine LeO.ite ?_ ?_
   | refine LeO.bind ?_ (fun _ => ?_)
  ·intro y0 y1 y2
   unfold impl_Lex.l1
   repeat' first
   | (with_reducible exact ih0 _ _ _)
   | (with_reducible exact ih1 _ _ _ _)
   | (with_reducible exact ih2 _ _ _)
   | (with_reducible exact LeO.refl _)
   | (with_reducible exact LeO.none _)
   | (with_reducible refine LeO.ite ?_ ?_)
   | (with_reducible refine LeO.bind ?_ (fun _ => ?_))
   | exact ih0 _ _ _
   | exact ih1 _ _ _ _
   | exact ih2 _ _ _
   | exact LeO.none _
   | refine LeO.ite ?_ ?_
   | refine LeO.bind ?_ (fun _ => ?_)
theorem impl_Lex.mono : ∀ a0 k, LeO (impl_Lex.f k a0) (impl_Lex.f (k + 1) a0) := by
 intro a0 k
 obtain ⟨ih0, ih1, ih2⟩ := impl_Lex.mono_l k
 unfold impl_Lex.f
 repeat' first
   | (with_reducible exact ih0 _ _ _)
   | (with_reducible exact ih1 _ _ _ _)
   | (with_reducible exact ih2 _ _ _)
   | (with_reducible exact LeO.refl _)
   | (with_reducible exact LeO.none _)
   | (with_reducible refine LeO.ite ?_ ?_)
   | (with_reducible refine LeO.bind ?_ (fun _ => ?_))
   | exact ih0 _ _ _
   | exact ih1 _ _ _ _
   | exact ih2 _ _ _
   | exact LeO.none _
   | refine LeO.ite ?_ ?_
   | refine LeO.bind ?_ (fun _ => ?_)
set_option maxHeartbeats 8000000 in
set_option maxRecDepth 100000 in
theorem impl_Lex.calls (k : Nat) (a0 : ByteArray) (r1 : List (S35)) (r2 : Int) (r3 : Int) (w : World) (hT : Tabs w) (h : impl_Lex.f k a0 = some (r1, r2, r3)) :
  Calls Tryz.prog 11 #[.string a0] w fun e w' => ∃ v0_ : Value, e = .returned (.tuple #[v0_, .int .i64 r2, .int .i64 r3]) ∧ Kd.R k35 35 w' w.heap.size (fun _ => True) v0_ r1 ∧ Below w.heap.size w w' := by
 have hu35 := Tryz.underlying35; have HT := sd hT; clear hT; have HB := sd (Below.refl w.heap.size w); have H : (if (a0.size : Int) > 8000 then (some (([] : List (S35)), 5, 0)) else (impl_Lex.l0 k a0 ([] : List (S35)) 0)) = some (r1, r2, r3) := h; clear h
 by_cases c2 : (a0.size : Int) > 8000
 ·rw [if_pos c2] at H; have c2b0 : decide (8000 < (a0.size : Int)) = true := decide_eq_true c2; have c2b1 : decide (8000 < a0.size) = true := decide_eq_true (by omega); clear c2; simp only [Option.some.injEq, Prod.mk.injEq] at H; obtain ⟨rfl, rfl, rfl⟩ := H
  go_enter Tryz.func11, Tryz.ntmps11
  go_wp2
  go_ret3
  exact ⟨_, by first | rfl | (simp [*] <;> rfl), by first | exact Kd.R_nil _ _ _ _ _ | exact Kd.N_nil _ _ _ _ _ | exact Kd.V_nil _ _ _ _ _ | exact Kd.Q_nil _ _ _ _ _ | exact Kd.S_nil _ _ _ _ _, bE HB.out⟩
 ·rw [if_neg c2] at H; have c2b0 : decide (8000 < (a0.size : Int)) = false := decide_eq_false c2; have c2b1 : decide (8000 < a0.size) = false := decide_eq_false (by omega); clear c2; have H' := sd H
  clear H
  go_enter Tryz.func11, Tryz.ntmps11
  go_wp2
  go_loopg [5, 6] k (fun kq v5 v6 w' => ∃ (x5_1 : List (S35)) (x6_1 : Int), v6 = .int .i64 x6_1 ∧ Aside0 (impl_Lex.l0 kq a0 x5_1 x6_1 = some (r1, r2, r3)) ∧ Aside0 (kq ≤ k) ∧ Aside0 (Kd.R k35 35 w' w.heap.size (fun _ => True) v5 x5_1) ∧ Aside0 (Below w.heap.size w w'))
  case atStart => exact ⟨(([] : List (S35))), (0), (by first | rfl | (simp [*]; done)), H', ⟨Nat.le_refl _⟩, ⟨by first | exact Kd.R_nil _ _ _ _ _ | exact Kd.N_nil _ _ _ _ _ | exact Kd.V_nil _ _ _ _ _ | exact Kd.Q_nil _ _ _ _ _ | exact Kd.S_nil _ _ _ _ _⟩, ⟨bE HB.out⟩⟩
  case round =>
   clear H'; (try clear c1); (try clear c2); (try clear c2b0); (try clear c2b1); (try clear p2); obtain ⟨x5_1, x6_1, rfl, HA, HK1, HO_5, HB⟩ := hrel; cases gk with
   | zero => exact absurd HA.out (by simp [impl_Lex.l0])
   | succ k1 =>
    have H := HA.out; clear HA; simp only [impl_Lex.l0] at H
    by_cases c3 : x6_1 < (a0.size : Int)
    ·rw [if_pos c3] at H; have c3b0 : decide (x6_1 < (a0.size : Int)) = true := decide_eq_true c3; clear c3
     by_cases c4 : 0 ≤ x6_1
     ·rw [if_pos c4] at H; have c4b0 : decide (0 ≤ x6_1) = true := decide_eq_true c4; clear c4; have HC6 := sd H; clear H; have p5 : 0 ≤ (x6_1 : Int) := of_decide_eq_true (by assumption); have q5 : x6_1 < (a0.size : Int) := of_decide_eq_true (by assumption); have hx5 := bt_at a0 x6_1; replace p5 := eq_true p5; replace q5 := eq_true q5
      go_upto_region 7 with (fail)
      go_cut [22] (fun v22 wc => ∃ (kq : Nat) (x22_5 : Bool), v22 = .bool x22_5 ∧ Aside0 (impl_Lex.j1 kq a0 x5_1 x6_1 x22_5 = some (r1, r2, r3)) ∧ Aside0 (kq ≤ k1) ∧ Aside0 (Kd.R k35 35 wc w.heap.size (fun _ => True) u5 x5_1) ∧ Aside0 (Below w.heap.size w wc))
      case first =>
       have H := HC6.out; clear HC6
       by_cases c7 : (bt a0 x6_1) = 32
       ·rw [if_pos c7] at H; have c7b0 : ((bt a0 x6_1) == 32) = true := beq_iff_eq.mpr c7; have c7b1 : ((bt a0 x6_1) != 32) = false := bne_eq_false_iff_eq.mpr c7; clear c7
        (first | rw [c7b0] | (simp only [i64_w, i32_w]; rw [c7b0]) | skip)
        have H' := sd H
        clear H; go_wp2
        go_meet
        case rel => exact ⟨_, (true), (by first | rfl | (simp [*]; done)), H', ⟨by have := HK1.out; first | omega | exact Nat.le_refl _⟩, ⟨rE HO_5.out⟩, ⟨bE HB.out⟩⟩
       ·rw [if_neg c7] at H; have c7b0 : ((bt a0 x6_1) == 32) = false := beq_eq_false_iff_ne.mpr c7; have c7b1 : ((bt a0 x6_1) != 32) = true := bne_iff_ne.mpr c7
        (first | rw [c7b0] | (simp only [i64_w, i32_w]; rw [c7b0]) | skip)
        by_cases c8 : (bt a0 x6_1) = 9
        ·rw [if_pos c8] at H; have c8b0 : ((bt a0 x6_1) == 9) = true := beq_iff_eq.mpr c8; have c8b1 : ((bt a0 x6_1) != 9) = false := bne_eq_false_iff_eq.mpr c8; clear c8; have H' := sd H
         clear H; go_wp2
         go_meet
         case rel => exact ⟨_, (true), (by first | rfl | (simp [*]; done)), H', ⟨by have := HK1.out; first | omega | exact Nat.le_refl _⟩, ⟨rE HO_5.out⟩, ⟨bE HB.out⟩⟩
        ·rw [if_neg c8] at H; have c8b0 : ((bt a0 x6_1) == 9) = false := beq_eq_false_iff_ne.mpr c8; have c8b1 : ((bt a0 x6_1) != 9) = true := bne_iff_ne.mpr c8
         by_cases c9 : (bt a0 x6_1) = 10
         ·rw [if_pos c9] at H; have c9b0 : ((bt a0 x6_1) == 10) = true := beq_iff_eq.mpr c9; have c9b1 : ((bt a0 x6_1) != 10) = false := bne_eq_false_iff_eq.mpr c9; clear c9; have H' := sd H
          clear H; go_wp2
          go_meet
          case rel => exact ⟨_, (true), (by first | rfl | (simp [*]; done)), H', ⟨by have := HK1.out; first | omega | exact Nat.le_refl _⟩, ⟨rE HO_5.out⟩, ⟨bE HB.out⟩⟩
         ·rw [if_neg c9] at H; have c9b0 : ((bt a0 x6_1) == 10) = false := beq_eq_false_iff_ne.mpr c9; have c9b1 : ((bt a0 x6_1) != 10) = true := bne_iff_ne.mpr c9; have H' := sd H
          clear H; go_wp2
          go_meet
          case rel => exact ⟨_, (((bt a0 x6_1) == 13)), (by first | rfl | (simp [*]; done)), H', ⟨by have := HK1.out; first | omega | exact Nat.le_refl _⟩, ⟨rE HO_5.out⟩, ⟨bE HB.out⟩⟩
      case rest =>
       clear HC6; (try clear c1); (try clear c2); (try clear c2b0); (try clear c2b1); (try clear p2); (try clear c3); (try clear c3b0); (try clear c4); (try clear c4b0); (try clear p5); (try clear q5); (try clear hx5); (try clear c7); (try clear c7b0); (try clear c7b1); (try clear c8); (try clear c8b0); (try clear c8b1); (try clear c9); (try clear c9b0); (try clear c9b1); (try clear p2); (try clear p5); (try clear q5); obtain ⟨kq, x22_5, rfl, HA, HJ5, HO_5, HB⟩ := hcut; cases kq with
       | zero => exact absurd HA.out (by simp [impl_Lex.j1])
       | succ kj5 =>
        have H := HA.out; clear HA; simp only [impl_Lex.j1] at H
        by_cases c10 : x22_5 = true
        ·subst c10; have H1 : (impl_Lex.l0 kj5 a0 x5_1 (wrap64 (x6_1 + 1))) = some (r1, r2, r3) := by rw [if_pos rfl] at H; exact H
         clear H; have H := H1; clear H1; have H' := sd H
         clear H; go_wp2
         go_roundg kj5
         case measure => have := HK1.out; have := HJ5.out; omega
         case rel => exact ⟨(x5_1), (wrap64 (x6_1 + 1)), (by first | rfl | (simp [*]; done)), H', ⟨by have := HK1.out; have := HJ5.out; omega⟩, ⟨rE HO_5.out⟩, ⟨bE HB.out⟩⟩
        ·replace c10 := Bool.eq_false_iff.mpr c10; subst c10; have H1 : (if 0 ≤ x6_1 then (if x6_1 ≤ (a0.size : Int) then ((strings_HasPrefix.f (a0.extract (x6_1 : Int).toNat a0.size) (⟨#[45, 45]⟩ : ByteArray)).bind fun t401 => (if t401 = true then (impl_Lex.l1 kj5 a0 x5_1 x6_1) else (if (x5_1.length : Int) = 2000 then (some (([] : List (S35)), 5, x6_1)) else ((impl_scan.f (a0.extract (x6_1 : Int).toNat a0.size)).bind fun bt402 => (if bt402.2.2.2.2.1 = 0 then (if x5_1.length < 4398046511104 then (impl_Lex.l0 kj5 a0 (x5_1 ++ [(⟨bt402.1, bt402.2.1, x6_1⟩ : S35)]) (wrap64 (x6_1 + bt402.2.2.2.1))) else (none)) else (some (([] : List (S35)), bt402.2.2.2.2.1, wrap64 (x6_1 + bt402.2.2.2.2.2)))))))) else (none)) else (none)) = some (r1, r2, r3) := by rw [if_neg (show ¬ (false = true) by decide)] at H; exact H
         clear H; have H := H1; clear H1
         by_cases c11 : 0 ≤ x6_1
         ·rw [if_pos c11] at H; have c11b0 := eq_true c11; have c11b1 : decide (0 ≤ x6_1) = true := decide_eq_true c11; clear c11
          by_cases c12 : x6_1 ≤ (a0.size : Int)
          ·rw [if_pos c12] at H; have c12b0 := eq_true c12; have c12b1 : decide (x6_1 ≤ (a0.size : Int)) = true := decide_eq_true c12; clear c12; replace H := Option.bind_eq_some_iff.mp H; obtain ⟨t401, A130, H⟩ := H; replace H : (if t401 = true then (impl_Lex.l1 kj5 a0 x5_1 x6_1) else (if (x5_1.length : Int) = 2000 then (some (([] : List (S35)), 5, x6_1)) else ((impl_scan.f (a0.extract (x6_1 : Int).toNat a0.size)).bind fun bt402 => (if bt402.2.2.2.2.1 = 0 then (if x5_1.length < 4398046511104 then (impl_Lex.l0 kj5 a0 (x5_1 ++ [(⟨bt402.1, bt402.2.1, x6_1⟩ : S35)]) (wrap64 (x6_1 + bt402.2.2.2.1))) else (none)) else (some (([] : List (S35)), bt402.2.2.2.2.1, wrap64 (x6_1 + bt402.2.2.2.2.2))))))) = some (r1, r2, r3) := H; have A13 := sd A130; clear A130
           by_cases c14 : t401 = true
           ·subst c14; have H1 : (impl_Lex.l1 kj5 a0 x5_1 x6_1) = some (r1, r2, r3) := by rw [if_pos rfl] at H; exact H
            clear H; have H := H1; clear H1; have H' := sd H
            clear H
            go_wp2_with (first | ((with_reducible refine gate_callee (f := 24) rfl ?_); refine goesL_ (some 43) rfl rfl Tryz.func24 (by kernel_rfl) rfl #[.string (a0.extract (x6_1 : Int).toNat a0.size), .string (⟨#[45, 45]⟩ : ByteArray)] rfl (by (try simp only [List.map_toArray, List.map_cons, List.map_nil]); first | done | rfl) ?_; (with_reducible refine (strings_HasPrefix.calls (a0.extract (x6_1 : Int).toNat a0.size) (⟨#[45, 45]⟩ : ByteArray) true _ A13.out).mono ?_); rintro e w' ⟨rfl, ⟨nd, rfl⟩⟩; refine ⟨_, rfl, ?_⟩))
            go_loopg [6] kj5 (fun kq v6 w' => ∃ (x6_3 : Int), v6 = .int .i64 x6_3 ∧ Aside0 (impl_Lex.l1 kq a0 x5_1 x6_3 = some (r1, r2, r3)) ∧ Aside0 (kq ≤ kj5) ∧ Aside0 (Kd.R k35 35 w' w.heap.size (fun _ => True) u5 x5_1) ∧ Aside0 (Below w.heap.size w w'))
            case atStart => exact ⟨(x6_1), (by first | rfl | (simp [*]; done)), H', ⟨Nat.le_refl _⟩, ⟨rE HO_5.out⟩, ⟨bE HB.out⟩⟩
            case round =>
             clear H'; (try clear c1); (try clear c2); (try clear c2b0); (try clear c2b1); (try clear p2); (try clear c3); (try clear c3b0); (try clear c4); (try clear c4b0); (try clear p5); (try clear q5); (try clear hx5); (try clear p6); (try clear c7); (try clear c7b0); (try clear c7b1); (try clear c8); (try clear c8b0); (try clear c8b1); (try clear c9); (try clear c9b0); (try clear c9b1); (try clear c10); (try clear c11); (try clear c11b0); (try clear c11b1); (try clear c12); (try clear c12b0); (try clear c12b1); (try clear c14); (try clear p2); (try clear p5); (try clear q5); obtain ⟨x6_3, rfl, HA, HK3, HO_5, HB⟩ := hrel; cases gk with
             | zero => exact absurd HA.out (by simp [impl_Lex.l1])
             | succ k3 =>
              have H := HA.out; clear HA; simp only [impl_Lex.l1] at H
              by_cases c15 : x6_3 < (a0.size : Int)
              ·rw [if_pos c15] at H; have c15b0 : decide (x6_3 < (a0.size : Int)) = true := decide_eq_true c15; clear c15
               by_cases c16 : 0 ≤ x6_3
               ·rw [if_pos c16] at H; have c16b0 : decide (0 ≤ x6_3) = true := decide_eq_true c16; clear c16
                by_cases c18 : (bt a0 x6_3) = 10
                ·rw [if_pos c18] at H; have c18b0 : ((bt a0 x6_3) == 10) = true := beq_iff_eq.mpr c18; have c18b1 : ((bt a0 x6_3) != 10) = false := bne_eq_false_iff_eq.mpr c18; clear c18; have H' := sd H
                 clear H; have p17 : 0 ≤ (x6_3 : Int) := of_decide_eq_true (by assumption); have q17 : x6_3 < (a0.size : Int) := of_decide_eq_true (by assumption); have hx17 := bt_at a0 x6_3; replace p17 := eq_true p17; replace q17 := eq_true q17; go_wp2
                 go_roundg k3
                 case measure => have := HK1.out; have := HJ5.out; have := HK3.out; omega
                 case rel => exact ⟨(x5_1), (x6_3), (by first | rfl | (simp [*]; done)), H', ⟨by have := HK1.out; have := HJ5.out; have := HK3.out; omega⟩, ⟨rE HO_5.out⟩, ⟨bE HB.out⟩⟩
                ·rw [if_neg c18] at H; have c18b0 : ((bt a0 x6_3) == 10) = false := beq_eq_false_iff_ne.mpr c18; have c18b1 : ((bt a0 x6_3) != 10) = true := bne_iff_ne.mpr c18; have H' := sd H
                 clear H; have p17 : 0 ≤ (x6_3 : Int) := of_decide_eq_true (by assumption); have q17 : x6_3 < (a0.size : Int) := of_decide_eq_true (by assumption); have hx17 := bt_at a0 x6_3; replace p17 := eq_true p17; replace q17 := eq_true q17; go_wp2
                 go_roundg k3
                 case measure => have := HK1.out; have := HJ5.out; have := HK3.out; omega
                 case rel => exact ⟨(wrap64 (x6_3 + 1)), (by first | rfl | (simp [*]; done)), H', ⟨by have := HK1.out; have := HJ5.out; have := HK3.out; omega⟩, ⟨rE HO_5.out⟩, ⟨bE HB.out⟩⟩
               ·rw [if_neg c16] at H; exact absurd H (by simp)
              ·rw [if_neg c15] at H; have c15b0 : decide (x6_3 < (a0.size : Int)) = false := decide_eq_false c15; clear c15; have H' := sd H
               clear H; go_wp2
               go_roundg k3
               case measure => have := HK1.out; have := HJ5.out; have := HK3.out; omega
               case rel => exact ⟨(x5_1), (x6_3), (by first | rfl | (simp [*]; done)), H', ⟨by have := HK1.out; have := HJ5.out; have := HK3.out; omega⟩, ⟨rE HO_5.out⟩, ⟨bE HB.out⟩⟩
           ·replace c14 := Bool.eq_false_iff.mpr c14; subst c14; have H1 : (if (x5_1.length : Int) = 2000 then (some (([] : List (S35)), 5, x6_1)) else ((impl_scan.f (a0.extract (x6_1 : Int).toNat a0.size)).bind fun bt402 => (if bt402.2.2.2.2.1 = 0 then (if x5_1.length < 4398046511104 then (impl_Lex.l0 kj5 a0 (x5_1 ++ [(⟨bt402.1, bt402.2.1, x6_1⟩ : S35)]) (wrap64 (x6_1 + bt402.2.2.2.1))) else (none)) else (some (([] : List (S35)), bt402.2.2.2.2.1, wrap64 (x6_1 + bt402.2.2.2.2.2)))))) = some (r1, r2, r3) := by rw [if_neg (show ¬ (false = true) by decide)] at H; exact H
            clear H; have H := H1; clear H1
            by_cases c19 : (x5_1.length : Int) = 2000
            ·rw [if_pos c19] at H; have c19b0 : ((x5_1.length : Int) == 2000) = true := beq_iff_eq.mpr c19; have c19b1 : ((x5_1.length : Int) != 2000) = false := bne_eq_false_iff_eq.mpr c19; clear c19; simp only [Option.some.injEq, Prod.mk.injEq] at H; obtain ⟨rfl, rfl, rfl⟩ := H
             go_wp2_with (first | ((with_reducible refine gate_callee (f := 24) rfl ?_); refine goesL_ (some 43) rfl rfl Tryz.func24 (by kernel_rfl) rfl #[.string (a0.extract (x6_1 : Int).toNat a0.size), .string (⟨#[45, 45]⟩ : ByteArray)] rfl (by (try simp only [List.map_toArray, List.map_cons, List.map_nil]); first | done | rfl) ?_; (with_reducible refine (strings_HasPrefix.calls (a0.extract (x6_1 : Int).toNat a0.size) (⟨#[45, 45]⟩ : ByteArray) false _ A13.out).mono ?_); rintro e w' ⟨rfl, ⟨nd, rfl⟩⟩; refine ⟨_, rfl, ?_⟩; obtain ⟨Ao20, co20, eo20⟩ := Kd.R_slice HO_5.out; subst eo20))
             go_ret3
             exact ⟨_, by first | rfl | (simp [*] <;> rfl), by first | exact Kd.R_nil _ _ _ _ _ | exact Kd.N_nil _ _ _ _ _ | exact Kd.V_nil _ _ _ _ _ | exact Kd.Q_nil _ _ _ _ _ | exact Kd.S_nil _ _ _ _ _, bE HB.out⟩
            ·rw [if_neg c19] at H; have c19b0 : ((x5_1.length : Int) == 2000) = false := beq_eq_false_iff_ne.mpr c19; have c19b1 : ((x5_1.length : Int) != 2000) = true := bne_iff_ne.mpr c19; have c21b0 := eq_true (of_decide_eq_true (by assumption) : 0 ≤ x6_1); have c22b0 := eq_true (of_decide_eq_true (by assumption) : x6_1 ≤ (a0.size : Int)); replace H := Option.bind_eq_some_iff.mp H; obtain ⟨⟨t402, t403, t404, t405, t406, t407⟩, A230, H⟩ := H; replace H : (if t406 = 0 then (if x5_1.length < 4398046511104 then (impl_Lex.l0 kj5 a0 (x5_1 ++ [(⟨t402, t403, x6_1⟩ : S35)]) (wrap64 (x6_1 + t405))) else (none)) else (some (([] : List (S35)), t406, wrap64 (x6_1 + t407)))) = some (r1, r2, r3) := H; have A23 := sd A230; clear A230
             by_cases c24 : t406 = 0
             ·rw [if_pos c24] at H; have c24b0 : (t406 == 0) = true := beq_iff_eq.mpr c24; have c24b1 : (t406 != 0) = false := bne_eq_false_iff_eq.mpr c24; clear c24
              by_cases c25 : x5_1.length < 4398046511104
              ·rw [if_pos c25] at H; have LMc25 := sd c25; clear c25; obtain ⟨y409, hy409⟩ : ∃ y_ : List (S35), y_ = (x5_1 ++ [(⟨t402, t403, x6_1⟩ : S35)]) := ⟨_, rfl⟩; replace H : (impl_Lex.l0 kj5 a0 y409 (wrap64 (x6_1 + t405))) = some (r1, r2, r3) := by first | (rw [hy409]; with_reducible exact H) | (have H2_ := (Option.bind_some _ _).symm.trans H; rw [hy409]; with_reducible exact H2_) | (have H2_ := (Option.bind_some _ _).symm.trans H; with_reducible exact H2_) | with_reducible exact H | (rw [hy409]; exact H) | exact H
               have Ny409 := sd hy409; clear hy409; have H' := sd H
               clear H
               go_wp2_with (first | ((with_reducible refine gate_callee (f := 24) rfl ?_); refine goesL_ (some 43) rfl rfl Tryz.func24 (by kernel_rfl) rfl #[.string (a0.extract (x6_1 : Int).toNat a0.size), .string (⟨#[45, 45]⟩ : ByteArray)] rfl (by (try simp only [List.map_toArray, List.map_cons, List.map_nil]); first | done | rfl) ?_; (with_reducible refine (strings_HasPrefix.calls (a0.extract (x6_1 : Int).toNat a0.size) (⟨#[45, 45]⟩ : ByteArray) false _ A13.out).mono ?_); rintro e w' ⟨rfl, ⟨nd, rfl⟩⟩; refine ⟨_, rfl, ?_⟩; (try (rw [drewN_self wc]; generalize hq_ : World.drewN wc _ = wc; have n0_ : Aside0 (Kd.R k35 35 wc w.heap.size (fun _ => True) u5 x5_1) := ⟨by rw [← hq_]; exact (rE HO_5.out)⟩; have n1_ : Aside0 (Below w.heap.size w wc) := ⟨by rw [← hq_]; exact (bE HB.out)⟩; clear HO_5 HB hq_; have HO_5 := n0_; have HB := n1_; clear n0_ n1_)); obtain ⟨Ao26, co26, eo26⟩ := Kd.R_slice HO_5.out; subst eo26) | ((with_reducible refine gate_callee (f := 25) rfl ?_); refine goesL_ (some 64) rfl rfl Tryz.func25 (by kernel_rfl) rfl #[.string (a0.extract (x6_1 : Int).toNat a0.size)] rfl (by (try simp only [List.map_toArray, List.map_cons, List.map_nil]); first | done | rfl) ?_; (with_reducible refine (impl_scan.calls (a0.extract (x6_1 : Int).toNat a0.size) t402 t403 t404 t405 t406 t407 _ ?side1 A23.out).mono ?_); (case side1 => refine Tabs.below HT.out ?_; exact bE HB.out); rintro e w27 ⟨rfl, hb⟩; refine ⟨_, rfl, ?_⟩; replace HO_5 := sd (Kd.R_below (rE HO_5.out) hb); replace HB := sd (bT (bE HB.out) hb); (try clear hb); (try clear hb2); (try clear hk); (try clear hi)) | ((with_reducible refine gate_dst (N := 8) rfl ?_); refine box_event ?hg (N := 8) ?hd (cs := #[.int .i64 0, .string (⟨#[]⟩ : ByteArray), .int .i64 0]) (t := 35) ?hr ?_; (case hd => rfl); (case hg => rfl); (case hr => go_simp <;> rfl); intro gb408 hg w28 hbox hb; replace HO_5 := sd (Kd.R_below (Kd.R_elderB (rE HO_5.out) gb408 (Nat.le_of_eq hg.symm)) hb); have BK408 := sd (hbox); have GW408 := sd ((by rw [hg]; exact (bZ (bE HB.out)) : w.heap.size ≤ gb408)); have GE408 := GW408; replace HB := sd (bT (bE HB.out) hb); clear hb hbox hg; obtain ⟨hcz29_0, hcz29_1, hcz29_2, hfz29_0, hfz29_1, hfz29_2⟩ := row3 BK408.out; have zp1 := blk_put (cs' := #[.int .i64 t402, .string (⟨#[]⟩ : ByteArray), .int .i64 0]) BK408.out 0 (.int .i64 t402) rfl; have zp2 := blk_put (cs' := #[.int .i64 t402, .string t403, .int .i64 0]) zp1 1 (.string t403) rfl; have zp3 := blk_put (cs' := #[.int .i64 t402, .string t403, .int .i64 t404]) zp2 2 (.int .i64 t404) rfl; have zc3_2 := (blk_cell zp3 2).trans (show _ = some (.int .i64 t404) from rfl); have zf3_2 := blk_frozen zp3 2; have zp4 := blk_put (cs' := #[.int .i64 t402, .string t403, .int .i64 x6_1]) zp3 2 (.int .i64 x6_1) rfl; have zc4_0 := (blk_cell zp4 0).trans (show _ = some (.int .i64 t402) from rfl); have zf4_0 := blk_frozen zp4 0; have zc4_1 := (blk_cell zp4 1).trans (show _ = some (.string t403) from rfl); have zf4_1 := blk_frozen zp4 1; have zc4_2 := (blk_cell zp4 2).trans (show _ = some (.int .i64 x6_1) from rfl); have zf4_2 := blk_frozen zp4 2; clear zp1 zp2 zp3 zp4) | ((with_reducible refine gate_builtin (b := .append) (xs := #[.tmp 77, .tmp 79]) rfl ?_); at_builtin; refine Kd.R_append k35 (w0 := w) w.heap.size rfl (.tmp 77) (.tmp 79) 26 35 (.agg #[(.int .i64 0), (.string ⟨#[]⟩), (.int .i64 0)]) 32 rfl Tryz.underlying26 info35 rfl (by decide) (by omega) (.slice Ao26 x5_1.length co26) x5_1 (⟨t402, t403, x6_1⟩ : S35) [.int .i64 t402, .string t403, .int .i64 x6_1] (fun k_ => k_ ≠ gb408) (fun _ => False) rfl (by first | (go_simp; done) | (go_simp; rfl)) ?aP (fun _ hk => hk.elim) ?aF ?aO ?aB ?aS ?aL ?_; (case aP => exact k35_mkM _ _ _ (⟨t402, t403, x6_1⟩ : S35)); (case aB => exact (bE HB.out)); (case aF => exact (fun k_ hk => Kd.freshB (g := gb408) (o := .cells #[.int .i64 t402, .string t403, .int .i64 x6_1] 35 (0, 0)) (by (with_reducible repeat (first | refine kN ?_ _ | refine k1 ?_ | refine kA ?_ _)); refine blk_put (cs := #[.int .i64 t402, .string t403, .int .i64 t404]) ?_ 2 _ rfl; (with_reducible repeat (first | refine kN ?_ _ | refine k1 ?_ | refine kA ?_ _)); refine blk_put (cs := #[.int .i64 t402, .string t403, .int .i64 0]) ?_ 2 _ rfl; (with_reducible repeat (first | refine kN ?_ _ | refine k1 ?_ | refine kA ?_ _)); refine blk_put (cs := #[.int .i64 t402, .string (⟨#[]⟩ : ByteArray), .int .i64 0]) ?_ 1 _ rfl; (with_reducible repeat (first | refine kN ?_ _ | refine k1 ?_ | refine kA ?_ _)); refine blk_put (cs := #[.int .i64 0, .string (⟨#[]⟩ : ByteArray), .int .i64 0]) ?_ 0 _ rfl; exact kE BK408.out) k_ hk)); (case aO => exact (by (with_reducible repeat (first | apply rA | apply rN | apply r1)); exact Kd.R_mono (Kd.R_far (p := ⟨gb408, 2, none⟩) (Kd.R_far (p := ⟨gb408, 2, none⟩) (Kd.R_far (p := ⟨gb408, 1, none⟩) (Kd.R_far (p := ⟨gb408, 0, none⟩) (Kd.R_mono HO_5.out (fun k_ hk => (⟨hk, hk.2⟩ : _ ∧ k_ ≠ gb408))) (fun _ hk => hk.2) (.int .i64 t402)) (fun _ hk => hk.2) (.string t403)) (fun _ hk => hk.2) (.int .i64 t404)) (fun _ hk => hk.2) (.int .i64 x6_1)) (fun _ hk => hk.1.2))); (case aS => exact (bZ (bE HB.out))); (case aL => have := LMc25.out; omega); intro v410 w30 ho hb hg hat; rw [← Ny409.out] at ho; replace BK408 := sd (blk_grown (g := gb408) (o := .cells #[.int .i64 t402, .string t403, .int .i64 x6_1] 35 (0, 0)) (by (with_reducible repeat (first | refine kN ?_ _ | refine k1 ?_ | refine kA ?_ _)); refine blk_put (cs := #[.int .i64 t402, .string t403, .int .i64 t404]) ?_ 2 _ rfl; (with_reducible repeat (first | refine kN ?_ _ | refine k1 ?_ | refine kA ?_ _)); refine blk_put (cs := #[.int .i64 t402, .string t403, .int .i64 0]) ?_ 2 _ rfl; (with_reducible repeat (first | refine kN ?_ _ | refine k1 ?_ | refine kA ?_ _)); refine blk_put (cs := #[.int .i64 t402, .string (⟨#[]⟩ : ByteArray), .int .i64 0]) ?_ 1 _ rfl; (with_reducible repeat (first | refine kN ?_ _ | refine k1 ?_ | refine kA ?_ _)); refine blk_put (cs := #[.int .i64 0, .string (⟨#[]⟩ : ByteArray), .int .i64 0]) ?_ 0 _ rfl; exact kE BK408.out) hg (Kd.R_away HO_5.out (fun _ hk => hk.2))); replace HB := sd (hb); have HO411 := sd (ho); clear HO_5; clear ho hb hg hat))
               go_roundg kj5
               case measure => have := HK1.out; have := HJ5.out; omega
               case rel => exact ⟨(y409), (wrap64 (x6_1 + t405)), (by first | rfl | (simp [*]; done)), H', ⟨by have := HK1.out; have := HJ5.out; omega⟩, ⟨by (with_reducible repeat (first | apply rA | apply rN | apply r1)); exact Kd.R_mono HO411.out (fun _ hk => trivial)⟩, ⟨bE HB.out⟩⟩
              ·rw [if_neg c25] at H; exact absurd H (by simp)
             ·rw [if_neg c24] at H; have c24b0 : (t406 == 0) = false := beq_eq_false_iff_ne.mpr c24; have c24b1 : (t406 != 0) = true := bne_iff_ne.mpr c24; simp only [Option.some.injEq, Prod.mk.injEq] at H; obtain ⟨rfl, rfl, rfl⟩ := H
              go_wp2_with (first | ((with_reducible refine gate_callee (f := 24) rfl ?_); refine goesL_ (some 43) rfl rfl Tryz.func24 (by kernel_rfl) rfl #[.string (a0.extract (x6_1 : Int).toNat a0.size), .string (⟨#[45, 45]⟩ : ByteArray)] rfl (by (try simp only [List.map_toArray, List.map_cons, List.map_nil]); first | done | rfl) ?_; (with_reducible refine (strings_HasPrefix.calls (a0.extract (x6_1 : Int).toNat a0.size) (⟨#[45, 45]⟩ : ByteArray) false _ A13.out).mono ?_); rintro e w' ⟨rfl, ⟨nd, rfl⟩⟩; refine ⟨_, rfl, ?_⟩; (try (rw [drewN_self wc]; generalize hq_ : World.drewN wc _ = wc; have n0_ : Aside0 (Kd.R k35 35 wc w.heap.size (fun _ => True) u5 x5_1) := ⟨by rw [← hq_]; exact (rE HO_5.out)⟩; have n1_ : Aside0 (Below w.heap.size w wc) := ⟨by rw [← hq_]; exact (bE HB.out)⟩; clear HO_5 HB hq_; have HO_5 := n0_; have HB := n1_; clear n0_ n1_)); obtain ⟨Ao31, co31, eo31⟩ := Kd.R_slice HO_5.out; subst eo31) | ((with_reducible refine gate_callee (f := 25) rfl ?_); refine goesL_ (some 64) rfl rfl Tryz.func25 (by kernel_rfl) rfl #[.string (a0.extract (x6_1 : Int).toNat a0.size)] rfl (by (try simp only [List.map_toArray, List.map_cons, List.map_nil]); first | done | rfl) ?_; (with_reducible refine (impl_scan.calls (a0.extract (x6_1 : Int).toNat a0.size) t402 t403 t404 t405 t406 t407 _ ?side1 A23.out).mono ?_); (case side1 => refine Tabs.below HT.out ?_; exact bE HB.out); rintro e w32 ⟨rfl, hb⟩; refine ⟨_, rfl, ?_⟩; replace HO_5 := sd (Kd.R_below (rE HO_5.out) hb); replace HB := sd (bT (bE HB.out) hb); (try clear hb); (try clear hb2); (try clear hk); (try clear hi)) | ((with_reducible refine gate_dst (N := 8) rfl ?_); refine box_event ?hg (N := 8) ?hd (cs := #[.int .i64 0, .string (⟨#[]⟩ : ByteArray), .int .i64 0]) (t := 35) ?hr ?_; (case hd => rfl); (case hg => rfl); (case hr => go_simp <;> rfl); intro gb408 hg w33 hbox hb; replace HO_5 := sd (Kd.R_below (Kd.R_elderB (rE HO_5.out) gb408 (Nat.le_of_eq hg.symm)) hb); have BK408 := sd (hbox); have GW408 := sd ((by rw [hg]; exact (bZ (bE HB.out)) : w.heap.size ≤ gb408)); have GE408 := GW408; replace HB := sd (bT (bE HB.out) hb); clear hb hbox hg; obtain ⟨hcz34_0, hcz34_1, hcz34_2, hfz34_0, hfz34_1, hfz34_2⟩ := row3 BK408.out))
              go_ret3
              exact ⟨_, by first | rfl | (simp [*] <;> rfl), by first | exact Kd.R_nil _ _ _ _ _ | exact Kd.N_nil _ _ _ _ _ | exact Kd.V_nil _ _ _ _ _ | exact Kd.Q_nil _ _ _ _ _ | exact Kd.S_nil _ _ _ _ _, bE HB.out⟩
          ·rw [if_neg c12] at H; exact absurd H (by simp)
         ·rw [if_neg c11] at H; exact absurd H (by simp)
     ·rw [if_neg c4] at H; exact absurd H (by simp)
    ·rw [if_neg c3] at H; have c3b0 : decide (x6_1 < (a0.size : Int)) = false := decide_eq_false c3; clear c3; simp only [Option.some.injEq, Prod.mk.injEq] at H; obtain ⟨rfl, rfl, rfl⟩ := H; go_wp2
     go_ret3
     exact ⟨_, by first | rfl | (simp [*] <;> rfl), by (with_reducible repeat (first | apply rA | apply rN | apply r1)); exact HO_5.out, bE HB.out⟩

end Go.Proofs.YtackifpnpkbddaaGreatDoor.QFnLexed
