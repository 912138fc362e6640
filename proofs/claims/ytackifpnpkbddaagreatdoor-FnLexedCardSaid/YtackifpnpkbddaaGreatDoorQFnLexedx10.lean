-- Laid by a program of the session's own (wip/tools/mp.py); not the kit's print.
import Derived.Test.YtackifpnpkbddaaGreatDoorQFnLexedx0
import Derived.Test.YtackifpnpkbddaaGreatDoorQFnLexedx5
import Derived.Test.YtackifpnpkbddaaGreatDoorQFnLexedx6
import Derived.Test.YtackifpnpkbddaaGreatDoorQFnLexedx8
import Derived.Test.YtackifpnpkbddaaGreatDoorQFnLexedx9
namespace Go.Proofs.YtackifpnpkbddaaGreatDoor.QFnLexed
open Go.RowKit Go.Proofs.YtackifpnpkbddaaGreatDoorW.PrintWords Go.Proofs.YtackifpnpkbddaaGreatDoorW.PrintLast Go.Proofs.YtackifpnpkbddaaGreatDoorW.PrintMore Go.Proofs.YtackifpnpkbddaaGreatDoorScan
attribute [local go_sem] max2_int min2_int max_two min_two max_three min_three max_four min_four   -- for this text's walks alone
set_option linter.unusedVariables false
set_option linter.unusedSimpArgs false

/-! ### laws_FnLexed: function 4 -/
mutual
def laws_FnLexed.j0 : Nat → List (S35) → Int → ByteArray → Bool → Option (Bool)
 | 0, _, _, _, _ => none
 | k + 1, x3, x5, x6, x38 => if x38 = true then (some false) else (if x5 = 0 then ((impl_Lex.f k x6).bind fun bt422 => (if bt422.2.1 = 0 then (laws_FnLexed.j1 k x3 x6 bt422.1 ((bt422.1.length : Int) != (x3.length : Int))) else (laws_FnLexed.j1 k x3 x6 bt422.1 true))) else (some true))
def laws_FnLexed.j1 : Nat → List (S35) → ByteArray → List (S35) → Bool → Option (Bool)
 | 0, _, _, _, _ => none
 | k + 1, x3, x6, x8, x55 => if x55 = true then (some false) else (laws_FnLexed.l0 k x3 x6 x8 x8 (x8.length : Int) 0)
def laws_FnLexed.l0 : Nat → List (S35) → ByteArray → List (S35) → List (S35) → Int → Int → Option (Bool)
 | 0, _, _, _, _, _, _ => none
 | k + 1, x3, x6, x8, x56, x57, x58 => if x58 < x57 then (if 0 ≤ x58 then (if x58 < (x56.length : Int) then (if x58 < (x3.length : Int) then (if ((rd_T35 x56 x58).f0) = ((rd_T35 x3 x58).f0) then (if ((rd_T35 x56 x58).f1).toList = ((rd_T35 x3 x58).f1).toList then (if x58 > 0 then (if 0 ≤ (wrap64 (x58 - 1)) then (if (wrap64 (x58 - 1)) < (x8.length : Int) then (if ((rd_T35 x56 x58).f2) ≤ ((rd_T35 x8 (wrap64 (x58 - 1))).f2) then (some false) else (laws_FnLexed.l0 k x3 x6 x8 x56 x57 (wrap64 (x58 + 1)))) else (none)) else (none)) else (laws_FnLexed.l0 k x3 x6 x8 x56 x57 (wrap64 (x58 + 1)))) else (some false)) else (some false)) else (none)) else (none)) else (none)) else ((impl_Unlex.f k x8).bind fun bt432 => (if bt432.2 = 0 then (some (bt432.1.toList == x6.toList)) else (some false)))
end
def laws_FnLexed.f (k : Nat) (l0 : List Int) : Option (Bool) := if (l0.length : Int) > 1048576 then (some true) else ((spec_DrawUnlex.f k l0).bind fun t412 => ((spec_Unlex.f k t412).bind fun bt415 => ((spec_DrawUnlex.f k l0).bind fun t417 => ((impl_Unlex.f k t417).bind fun bt420 => (if bt415.2 = bt420.2 then (laws_FnLexed.j0 k t412 bt415.2 bt420.1 (bt420.1.toList != bt415.1.toList)) else (laws_FnLexed.j0 k t412 bt415.2 bt420.1 true))))))
theorem laws_FnLexed.mono_l : ∀ k, (∀ y0 y1 y2 y3, LeO (laws_FnLexed.j0 k y0 y1 y2 y3) (laws_FnLexed.j0 (k + 1) y0 y1 y2 y3)) ∧ (∀ y0 y1 y2 y3, LeO (laws_FnLexed.j1 k y0 y1 y2 y3) (laws_FnLexed.j1 (k + 1) y0 y1 y2 y3)) ∧ (∀ y0 y1 y2 y3 y4 y5, LeO (laws_FnLexed.l0 k y0 y1 y2 y3 y4 y5) (laws_FnLexed.l0 (k + 1) y0 y1 y2 y3 y4 y5))
 | 0 => ⟨fun _ _ _ _ r h => by simp [laws_FnLexed.j0] at h, fun _ _ _ _ r h => by simp [laws_FnLexed.j1] at h, fun _ _ _ _ _ _ r h => by simp [laws_FnLexed.l0] at h⟩
 | k + 1 => by
  obtain ⟨ih0, ih1, ih2⟩ := laws_FnLexed.mono_l k
  refine ⟨?_, ?_, ?_⟩
  ·intro y0 y1 y2 y3
   unfold laws_FnLexed.j0
   repeat' first
   | (with_reducible exact ih0 _ _ _ _)
   | (with_reducible exact ih1 _ _ _ _)
   | (with_reducible exact ih2 _ _ _ _ _ _)
   | (with_reducible exact impl_Lex.mono _ _)
   | (with_reducible exact impl_Unlex.mono _ _)
   | (with_reducible exact spec_DrawUnlex.mono _ _)
   | (with_reducible exact spec_Unlex.mono _ _)
   | (with_reducible exact LeO.refl _)
   | (with_reducible exact LeO.none _)
   | (with_reducible refine LeO.ite ?_ ?_)
   | (with_reducible refine LeO.bind ?_ (fun _ => ?_))
   | exact ih0 _ _ _ _
   | exact ih1 _ _ _ _
   | exact ih2 _ _ _ _ _ _
   | exact impl_Lex.mono _ _
   | exact impl_Unlex.mono _ _
   | exact spec_DrawUnlex.mono _ _
   | exact spec_Unlex.mono _ _
   | exact LeO.none _
   | refine LeO.ite ?_ ?_
   | refine LeO.bind ?_ (fun _ => ?_)
  ·intro y0 y1 y2 y3
   unfold laws_FnLexed.j1
   repeat' first
   | (with_reducible exact ih0 _ _ _ _)
   | (with_reducible exact ih1 _ _ _ _)
   | (with_reducible exact ih2 _ _ _ _ _ _)
   | (with_reducible exact impl_Lex.mono _ _)
   | (with_reducible exact impl_Unlex.mono _ _)
   | (with_reducible exact spec_DrawUnlex.mono _ _)
   | (with_reducible exact spec_Unlex.mono _ _)
   | (with_reducible exact LeO.refl _)
   | (with_reducible exact LeO.none _)
   | (with_reducible refine LeO.ite ?_ ?_)
   | (with_reducible refine LeO.bind ?_ (fun _ => ?_))
   | exact ih0 _ _ _ _
   | exact ih1 _ _ _ _
   | exact ih2 _ _ _ _ _ _
   | exact impl_Lex.mono _ _
   | exact impl_Unlex.mono _ _
   | exact spec_DrawUnlex.mono _ _
   | exact spec_Unlex.mono _ _
   | exact LeO.none _
   | refine LeO.ite ?_ ?_
   | refine LeO.bind ?_ (fun _ => ?_)
  ·intro y0 y1 y2 y3 y4 y5
   unfold laws_FnLexed.l0
   repeat' first
   | (with_reducible exact ih0 _ _ _ _)
   | (with_reducible exact ih1 _ _ _ _)
   | (with_reducible exact ih2 _ _ _ _ _ _)
   | (with_reducible exact impl_Lex.mono _ _)
   | (with_reducible exact impl_Unlex.mono _ _)
   | (with_reducible exact spec_DrawUnlex.mono _ _)
   | (with_reducible exact spec_Unlex.mono _ _)
   | (with_reducible exact LeO.refl _)
   | (with_reducible exact LeO.none _)
   | (with_reducible refine LeO.ite ?_ ?_)
   | (with_reducible refine LeO.bind ?_ (fun _ => ?_))
   | exact ih0 _ _ _ _
   | exact ih1 _ _ _ _
   | exact ih2 _ _ _ _ _ _
   | exact impl_Lex.mono _ _
   | exact impl_Unlex.mono _ _
   | exact spec_DrawUnlex.mono _ _
   | exact spec_Unlex.mono _ _
   | exact LeO.none _
   | refine LeO.ite ?_ ?_
   | refine LeO.bind ?_ (fun _ => ?_)
theorem laws_FnLexed.mono : ∀ a0 k, LeO (laws_FnLexed.f k a0) (laws_FnLexed.f (k + 1) a0) := by
 intro a0 k
 obtain ⟨ih0, ih1, ih2⟩ := laws_FnLexed.mono_l k
 unfold laws_FnLexed.f
 repeat' first
   | (with_reducible exact ih0 _ _ _ _)
   | (with_reducible exact ih1 _ _ _ _)
   | (with_reducible exact ih2 _ _ _ _ _ _)
   | (with_reducible exact impl_Lex.mono _ _)
   | (with_reducible exact impl_Unlex.mono _ _)
   | (with_reducible exact spec_DrawUnlex.mono _ _)
   | (with_reducible exact spec_Unlex.mono _ _)
   | (with_reducible exact LeO.refl _)
   | (with_reducible exact LeO.none _)
   | (with_reducible refine LeO.ite ?_ ?_)
   | (with_reducible refine LeO.bind ?_ (fun _ => ?_))
   | exact ih0 _ _ _ _
   | exact ih1 _ _ _ _
   | exact ih2 _ _ _ _ _ _
   | exact impl_Lex.mono _ _
   | exact impl_Unlex.mono _ _
   | exact spec_DrawUnlex.mono _ _
   | exact spec_Unlex.mono _ _
   | exact LeO.none _
   | refine LeO.ite ?_ ?_
   | refine LeO.bind ?_ (fun _ => ?_)
set_option maxHeartbeats 8000000 in
set_option maxRecDepth 100000 in
theorem laws_FnLexed.calls (k : Nat) (A0 : Option Addr) (c0 : Nat) (l0 : List Int) (w : World) (hT : Tabs w) (hr0 : Kd.C (Kd.int .u8) w A0 l0.length l0) (hc0 : l0.length ≤ c0) (h : laws_FnLexed.f k l0 = some true) :
  Calls Tryz.prog 4 #[.slice A0 l0.length c0] w fun e w' => e = .returned (.bool true) ∧ Below w.heap.size w w' := by
 have hu35 := Tryz.underlying35; have HT := sd hT; clear hT; have HR0 := sd hr0; have HC0 := sd hc0; clear hr0 hc0; have HB := sd (Below.refl w.heap.size w); have H : (if (l0.length : Int) > 1048576 then (some true) else ((spec_DrawUnlex.f k l0).bind fun t412 => ((spec_Unlex.f k t412).bind fun bt415 => ((spec_DrawUnlex.f k l0).bind fun t417 => ((impl_Unlex.f k t417).bind fun bt420 => (if bt415.2 = bt420.2 then (laws_FnLexed.j0 k t412 bt415.2 bt420.1 (bt420.1.toList != bt415.1.toList)) else (laws_FnLexed.j0 k t412 bt415.2 bt420.1 true))))))) = some true := h; clear h
 by_cases c2 : (l0.length : Int) > 1048576
 ·rw [if_pos c2] at H; have c2b0 : decide (1048576 < (l0.length : Int)) = true := decide_eq_true c2; have c2b1 : decide (1048576 < l0.length) = true := decide_eq_true (by omega); clear c2; clear H
  go_enter Tryz.func4, Tryz.ntmps4
  go_wp2
  repeat (go_quiet (fail); try go_wp2)
  go_ret
  exact ⟨by first | rfl | (simp [*] <;> rfl), bE HB.out⟩
 ·rw [if_neg c2] at H; have c2b0 : decide (1048576 < (l0.length : Int)) = false := decide_eq_false c2; have c2b1 : decide (1048576 < l0.length) = false := decide_eq_false (by omega); clear c2; replace H := Option.bind_eq_some_iff.mp H; obtain ⟨t412, A30, H⟩ := H; replace H : ((spec_Unlex.f k t412).bind fun bt415 => ((spec_DrawUnlex.f k l0).bind fun t417 => ((impl_Unlex.f k t417).bind fun bt420 => (if bt415.2 = bt420.2 then (laws_FnLexed.j0 k t412 bt415.2 bt420.1 (bt420.1.toList != bt415.1.toList)) else (laws_FnLexed.j0 k t412 bt415.2 bt420.1 true))))) = some true := H; have A3 := sd A30; clear A30; replace H := Option.bind_eq_some_iff.mp H; obtain ⟨⟨t415, t416⟩, A40, H⟩ := H; replace H : ((spec_DrawUnlex.f k l0).bind fun t417 => ((impl_Unlex.f k t417).bind fun bt420 => (if t416 = bt420.2 then (laws_FnLexed.j0 k t412 t416 bt420.1 (bt420.1.toList != t415.toList)) else (laws_FnLexed.j0 k t412 t416 bt420.1 true)))) = some true := H; have A4 := sd A40; clear A40; replace H := Option.bind_eq_some_iff.mp H; obtain ⟨t417, A50, H⟩ := H; replace H : ((impl_Unlex.f k t417).bind fun bt420 => (if t416 = bt420.2 then (laws_FnLexed.j0 k t412 t416 bt420.1 (bt420.1.toList != t415.toList)) else (laws_FnLexed.j0 k t412 t416 bt420.1 true))) = some true := H; have A5 := sd A50; clear A50; replace H := Option.bind_eq_some_iff.mp H; obtain ⟨⟨t420, t421⟩, A60, H⟩ := H; replace H : (if t416 = t421 then (laws_FnLexed.j0 k t412 t416 t420 (t420.toList != t415.toList)) else (laws_FnLexed.j0 k t412 t416 t420 true)) = some true := H; have A6 := sd A60; clear A60; have HC7 := sd H; clear H
  go_enter Tryz.func4, Tryz.ntmps4
  go_upto_region 6 with (first | (go_at_call 10; (with_reducible refine (spec_DrawUnlex.calls k _ _ l0 t412 _ ?side1 ?side2 A3.out).mono ?_); (case side1 => exact cE HR0.out); (case side2 => exact HC0.out); rintro e w8 ⟨v413, rfl, ho0, hb⟩; have HO414 := sd (Kd.R_lower ho0 (bZ (bE HB.out))); replace HB := sd (bT (bE HB.out) hb); (try clear hb); (try clear hb2); (try clear hk); (try clear hi); (try clear ho0); obtain ⟨Ao9, co9, eo9⟩ := Kd.R_slice HO414.out; subst eo9) | (go_at_call 6; (with_reducible refine (spec_Unlex.calls k _ _ t412 t415 t416 _ ?side1 ?side2 A4.out).mono ?_); (case side1 => repeat (first | exact (Kd.R_reads' HO414.out).2.2 | (with_reducible refine cA ?_ _) | (with_reducible refine cN ?_ _) | (with_reducible refine c1_ ?_))); (case side2 => exact (Kd.R_reads' HO414.out).2.1); rintro e w10 ⟨rfl, hb⟩; replace HO414 := sd (Kd.R_below (rE HO414.out) hb); replace HB := sd (bT (bE HB.out) hb); (try clear hb); (try clear hb2); (try clear hk); (try clear hi)) | (go_at_call 10; (with_reducible refine (spec_DrawUnlex.calls k _ _ l0 t417 _ ?side1 ?side2 A5.out).mono ?_); (case side1 => repeat (first | exact (Kd.C_below HR0.out HB.out) | (with_reducible refine cA ?_ _) | (with_reducible refine cN ?_ _) | (with_reducible refine c1_ ?_))); (case side2 => exact HC0.out); rintro e w11 ⟨v418, rfl, ho0, hb⟩; have HO419 := sd (Kd.R_lower (Kd.R_new' ho0 (Kd.R_lt (rE HO414.out))) (bZ (bE HB.out))); replace HO414 := sd (Kd.R_elder' (rE HO414.out) (Kd.R_base ho0) hb); replace HB := sd (bT (bE HB.out) hb); (try clear hb); (try clear hb2); (try clear hk); (try clear hi); (try clear ho0); obtain ⟨Ao12, co12, eo12⟩ := Kd.R_slice HO419.out; subst eo12) | (go_at_call 8; (with_reducible refine (impl_Unlex.calls k _ _ t417 t420 t421 _ ?side1 ?side2 ?side3 A6.out).mono ?_); (case side1 => refine Tabs.below HT.out ?_; exact bE HB.out); (case side2 => repeat (first | exact (Kd.R_reads' HO419.out).2.2 | (with_reducible refine cA ?_ _) | (with_reducible refine cN ?_ _) | (with_reducible refine c1_ ?_))); (case side3 => exact (Kd.R_reads' HO419.out).2.1); rintro e w13 ⟨rfl, hb⟩; replace HO414 := sd (Kd.R_below (rE HO414.out) hb); replace HO419 := sd (Kd.R_below (rE HO419.out) hb); replace HB := sd (bT (bE HB.out) hb); (try clear hb); (try clear hb2); (try clear hk); (try clear hi)))
  repeat (go_quiet (first | (go_at_call 10; (with_reducible refine (spec_DrawUnlex.calls k _ _ l0 t412 _ ?side1 ?side2 A3.out).mono ?_); (case side1 => exact cE HR0.out); (case side2 => exact HC0.out); rintro e w8 ⟨v413, rfl, ho0, hb⟩; have HO414 := sd (Kd.R_lower ho0 (bZ (bE HB.out))); replace HB := sd (bT (bE HB.out) hb); (try clear hb); (try clear hb2); (try clear hk); (try clear hi); (try clear ho0); obtain ⟨Ao9, co9, eo9⟩ := Kd.R_slice HO414.out; subst eo9) | (go_at_call 6; (with_reducible refine (spec_Unlex.calls k _ _ t412 t415 t416 _ ?side1 ?side2 A4.out).mono ?_); (case side1 => repeat (first | exact (Kd.R_reads' HO414.out).2.2 | (with_reducible refine cA ?_ _) | (with_reducible refine cN ?_ _) | (with_reducible refine c1_ ?_))); (case side2 => exact (Kd.R_reads' HO414.out).2.1); rintro e w10 ⟨rfl, hb⟩; replace HO414 := sd (Kd.R_below (rE HO414.out) hb); replace HB := sd (bT (bE HB.out) hb); (try clear hb); (try clear hb2); (try clear hk); (try clear hi)) | (go_at_call 10; (with_reducible refine (spec_DrawUnlex.calls k _ _ l0 t417 _ ?side1 ?side2 A5.out).mono ?_); (case side1 => repeat (first | exact (Kd.C_below HR0.out HB.out) | (with_reducible refine cA ?_ _) | (with_reducible refine cN ?_ _) | (with_reducible refine c1_ ?_))); (case side2 => exact HC0.out); rintro e w11 ⟨v418, rfl, ho0, hb⟩; have HO419 := sd (Kd.R_lower (Kd.R_new' ho0 (Kd.R_lt (rE HO414.out))) (bZ (bE HB.out))); replace HO414 := sd (Kd.R_elder' (rE HO414.out) (Kd.R_base ho0) hb); replace HB := sd (bT (bE HB.out) hb); (try clear hb); (try clear hb2); (try clear hk); (try clear hi); (try clear ho0); obtain ⟨Ao12, co12, eo12⟩ := Kd.R_slice HO419.out; subst eo12) | (go_at_call 8; (with_reducible refine (impl_Unlex.calls k _ _ t417 t420 t421 _ ?side1 ?side2 ?side3 A6.out).mono ?_); (case side1 => refine Tabs.below HT.out ?_; exact bE HB.out); (case side2 => repeat (first | exact (Kd.R_reads' HO419.out).2.2 | (with_reducible refine cA ?_ _) | (with_reducible refine cN ?_ _) | (with_reducible refine c1_ ?_))); (case side3 => exact (Kd.R_reads' HO419.out).2.1); rintro e w13 ⟨rfl, hb⟩; replace HO414 := sd (Kd.R_below (rE HO414.out) hb); replace HO419 := sd (Kd.R_below (rE HO419.out) hb); replace HB := sd (bT (bE HB.out) hb); (try clear hb); (try clear hb2); (try clear hk); (try clear hi))); go_upto_region 6 with (first | (go_at_call 10; (with_reducible refine (spec_DrawUnlex.calls k _ _ l0 t412 _ ?side1 ?side2 A3.out).mono ?_); (case side1 => exact cE HR0.out); (case side2 => exact HC0.out); rintro e w8 ⟨v413, rfl, ho0, hb⟩; have HO414 := sd (Kd.R_lower ho0 (bZ (bE HB.out))); replace HB := sd (bT (bE HB.out) hb); (try clear hb); (try clear hb2); (try clear hk); (try clear hi); (try clear ho0); obtain ⟨Ao9, co9, eo9⟩ := Kd.R_slice HO414.out; subst eo9) | (go_at_call 6; (with_reducible refine (spec_Unlex.calls k _ _ t412 t415 t416 _ ?side1 ?side2 A4.out).mono ?_); (case side1 => repeat (first | exact (Kd.R_reads' HO414.out).2.2 | (with_reducible refine cA ?_ _) | (with_reducible refine cN ?_ _) | (with_reducible refine c1_ ?_))); (case side2 => exact (Kd.R_reads' HO414.out).2.1); rintro e w10 ⟨rfl, hb⟩; replace HO414 := sd (Kd.R_below (rE HO414.out) hb); replace HB := sd (bT (bE HB.out) hb); (try clear hb); (try clear hb2); (try clear hk); (try clear hi)) | (go_at_call 10; (with_reducible refine (spec_DrawUnlex.calls k _ _ l0 t417 _ ?side1 ?side2 A5.out).mono ?_); (case side1 => repeat (first | exact (Kd.C_below HR0.out HB.out) | (with_reducible refine cA ?_ _) | (with_reducible refine cN ?_ _) | (with_reducible refine c1_ ?_))); (case side2 => exact HC0.out); rintro e w11 ⟨v418, rfl, ho0, hb⟩; have HO419 := sd (Kd.R_lower (Kd.R_new' ho0 (Kd.R_lt (rE HO414.out))) (bZ (bE HB.out))); replace HO414 := sd (Kd.R_elder' (rE HO414.out) (Kd.R_base ho0) hb); replace HB := sd (bT (bE HB.out) hb); (try clear hb); (try clear hb2); (try clear hk); (try clear hi); (try clear ho0); obtain ⟨Ao12, co12, eo12⟩ := Kd.R_slice HO419.out; subst eo12) | (go_at_call 8; (with_reducible refine (impl_Unlex.calls k _ _ t417 t420 t421 _ ?side1 ?side2 ?side3 A6.out).mono ?_); (case side1 => refine Tabs.below HT.out ?_; exact bE HB.out); (case side2 => repeat (first | exact (Kd.R_reads' HO419.out).2.2 | (with_reducible refine cA ?_ _) | (with_reducible refine cN ?_ _) | (with_reducible refine c1_ ?_))); (case side3 => exact (Kd.R_reads' HO419.out).2.1); rintro e w13 ⟨rfl, hb⟩; replace HO414 := sd (Kd.R_below (rE HO414.out) hb); replace HO419 := sd (Kd.R_below (rE HO419.out) hb); replace HB := sd (bT (bE HB.out) hb); (try clear hb); (try clear hb2); (try clear hk); (try clear hi))))
  (try simp only [Act.put, List.setIfInBounds_toArray, List.set_cons_zero, List.set_cons_succ])
  go_cut [38] (fun v38 wc => ∃ (kq : Nat) (x38_6 : Bool), v38 = .bool x38_6 ∧ Aside0 (laws_FnLexed.j0 kq t412 t416 t420 x38_6 = some true) ∧ Aside0 (kq ≤ k) ∧ Aside0 (Kd.R k35 35 wc w.heap.size (fun _ => True) (.slice Ao9 t412.length co9) t412) ∧ Aside0 (Below w.heap.size w wc))
  case first =>
   have H := HC7.out; clear HC7
   by_cases c14 : t416 = t421
   ·rw [if_pos c14] at H; have c14b0 : (t416 == t421) = true := beq_iff_eq.mpr c14; have c14b1 : (t416 != t421) = false := bne_eq_false_iff_eq.mpr c14; clear c14
    (first | rw [c14b0] | (simp only [i64_w, i32_w]; rw [c14b0]) | skip)
    have H' := sd H
    clear H; go_wp2
    repeat (go_quiet (fail); try go_wp2)
    go_meet
    case rel => exact ⟨_, ((t420.toList != t415.toList)), (by first | rfl | (simp [*]; done)), H', ⟨by first | omega | exact Nat.le_refl _⟩, ⟨by (with_reducible repeat (first | apply rA | apply rN | apply r1)); exact Kd.R_mono HO414.out (fun _ hk => trivial)⟩, ⟨bE HB.out⟩⟩
   ·rw [if_neg c14] at H; have c14b0 : (t416 == t421) = false := beq_eq_false_iff_ne.mpr c14; have c14b1 : (t416 != t421) = true := bne_iff_ne.mpr c14
    (first | rw [c14b0] | (simp only [i64_w, i32_w]; rw [c14b0]) | skip)
    have H' := sd H
    clear H; go_wp2
    repeat (go_quiet (fail); try go_wp2)
    go_meet
    case rel => exact ⟨_, (true), (by first | rfl | (simp [*]; done)), H', ⟨by first | omega | exact Nat.le_refl _⟩, ⟨by (with_reducible repeat (first | apply rA | apply rN | apply r1)); exact Kd.R_mono HO414.out (fun _ hk => trivial)⟩, ⟨bE HB.out⟩⟩
  case rest =>
   clear HC7; (try clear c1); (try clear c2); (try clear c2b0); (try clear c2b1); (try clear p2); (try clear c4); (try clear c14); (try clear c14b0); (try clear c14b1); obtain ⟨kq, x38_6, rfl, HA, HJ6, HO_3, HB⟩ := hcut; cases kq with
   | zero => exact absurd HA.out (by simp [laws_FnLexed.j0])
   | succ kj6 =>
    have H := HA.out; clear HA; simp only [laws_FnLexed.j0] at H
    by_cases c15 : x38_6 = true
    ·subst c15; have H1 : (some false) = some true := by rw [if_pos rfl] at H; exact H
     clear H; have H := H1; clear H1; exact absurd (Option.some.inj H) (by decide)
    ·replace c15 := Bool.eq_false_iff.mpr c15; subst c15; have H1 : (if t416 = 0 then ((impl_Lex.f kj6 t420).bind fun bt422 => (if bt422.2.1 = 0 then (laws_FnLexed.j1 kj6 t412 t420 bt422.1 ((bt422.1.length : Int) != (t412.length : Int))) else (laws_FnLexed.j1 kj6 t412 t420 bt422.1 true))) else (some true)) = some true := by rw [if_neg (show ¬ (false = true) by decide)] at H; exact H
     clear H; have H := H1; clear H1
     by_cases c16 : t416 = 0
     ·rw [if_pos c16] at H; have c16b0 : (t416 == 0) = true := beq_iff_eq.mpr c16; have c16b1 : (t416 != 0) = false := bne_eq_false_iff_eq.mpr c16; clear c16; replace H := Option.bind_eq_some_iff.mp H; obtain ⟨⟨t422, t423, t424⟩, A170, H⟩ := H; replace H : (if t423 = 0 then (laws_FnLexed.j1 kj6 t412 t420 t422 ((t422.length : Int) != (t412.length : Int))) else (laws_FnLexed.j1 kj6 t412 t420 t422 true)) = some true := H; have A17 := sd A170; clear A170; have HC18 := sd H; clear H
      go_upto_region 11 with (first | (go_at_call 11; (with_reducible refine (impl_Lex.calls kj6 t420 t422 t423 t424 _ ?side1 A17.out).mono ?_); (case side1 => refine Tabs.below HT.out ?_; exact bE HB.out); rintro e w19 ⟨v425, rfl, ho0, hb⟩; have HO426 := sd (Kd.R_lower (Kd.R_new' ho0 (Kd.R_lt (rE HO_3.out))) (bZ (bE HB.out))); replace HO_3 := sd (Kd.R_elder' (rE HO_3.out) (Kd.R_base ho0) hb); replace HB := sd (bT (bE HB.out) hb); (try clear hb); (try clear hb2); (try clear hk); (try clear hi); (try clear ho0)))
      repeat (go_quiet (first | (go_at_call 11; (with_reducible refine (impl_Lex.calls kj6 t420 t422 t423 t424 _ ?side1 A17.out).mono ?_); (case side1 => refine Tabs.below HT.out ?_; exact bE HB.out); rintro e w19 ⟨v425, rfl, ho0, hb⟩; have HO426 := sd (Kd.R_lower (Kd.R_new' ho0 (Kd.R_lt (rE HO_3.out))) (bZ (bE HB.out))); replace HO_3 := sd (Kd.R_elder' (rE HO_3.out) (Kd.R_base ho0) hb); replace HB := sd (bT (bE HB.out) hb); (try clear hb); (try clear hb2); (try clear hk); (try clear hi); (try clear ho0))); go_upto_region 11 with (first | (go_at_call 11; (with_reducible refine (impl_Lex.calls kj6 t420 t422 t423 t424 _ ?side1 A17.out).mono ?_); (case side1 => refine Tabs.below HT.out ?_; exact bE HB.out); rintro e w19 ⟨v425, rfl, ho0, hb⟩; have HO426 := sd (Kd.R_lower (Kd.R_new' ho0 (Kd.R_lt (rE HO_3.out))) (bZ (bE HB.out))); replace HO_3 := sd (Kd.R_elder' (rE HO_3.out) (Kd.R_base ho0) hb); replace HB := sd (bT (bE HB.out) hb); (try clear hb); (try clear hb2); (try clear hk); (try clear hi); (try clear ho0))))
      (try simp only [Act.put, List.setIfInBounds_toArray, List.set_cons_zero, List.set_cons_succ])
      go_cut [55] (fun v55 wc => ∃ (kq : Nat) (x55_17 : Bool), v55 = .bool x55_17 ∧ Aside0 (laws_FnLexed.j1 kq t412 t420 t422 x55_17 = some true) ∧ Aside0 (kq ≤ kj6) ∧ Aside0 (Kd.R k35 35 wc w.heap.size (fun k_ => some k_ ≠ (v425 : Value).ownBlock) (.slice Ao9 t412.length co9) t412) ∧ Aside0 (Kd.R k35 35 wc w.heap.size (fun k_ => some k_ ≠ ((.slice Ao9 t412.length co9) : Value).ownBlock) v425 t422) ∧ Aside0 (Below w.heap.size w wc))
      case first =>
       have H := HC18.out; clear HC18
       by_cases c20 : t423 = 0
       ·rw [if_pos c20] at H; have c20b0 : (t423 == 0) = true := beq_iff_eq.mpr c20; have c20b1 : (t423 != 0) = false := bne_eq_false_iff_eq.mpr c20; clear c20
        (first | rw [c20b0] | (simp only [i64_w, i32_w]; rw [c20b0]) | skip)
        have H' := sd H
        clear H; obtain ⟨Ao21, co21, eo21⟩ := Kd.R_slice HO426.out; subst eo21; go_wp2
        repeat (go_quiet (fail); try go_wp2)
        go_meet
        case rel => exact ⟨_, (((t422.length : Int) != (t412.length : Int))), (by first | rfl | (simp [*]; done)), H', ⟨by have := HJ6.out; first | omega | exact Nat.le_refl _⟩, ⟨by (with_reducible repeat (first | apply rA | apply rN | apply r1)); exact Kd.R_mono HO_3.out (fun _ hk => hk.2)⟩, ⟨by (with_reducible repeat (first | apply rA | apply rN | apply r1)); exact Kd.R_mono HO426.out (fun _ hk => hk.2)⟩, ⟨bE HB.out⟩⟩
       ·rw [if_neg c20] at H; have c20b0 : (t423 == 0) = false := beq_eq_false_iff_ne.mpr c20; have c20b1 : (t423 != 0) = true := bne_iff_ne.mpr c20
        (first | rw [c20b0] | (simp only [i64_w, i32_w]; rw [c20b0]) | skip)
        have H' := sd H
        clear H; go_wp2
        repeat (go_quiet (fail); try go_wp2)
        go_meet
        case rel => exact ⟨_, (true), (by first | rfl | (simp [*]; done)), H', ⟨by have := HJ6.out; first | omega | exact Nat.le_refl _⟩, ⟨by (with_reducible repeat (first | apply rA | apply rN | apply r1)); exact Kd.R_mono HO_3.out (fun _ hk => hk.2)⟩, ⟨by (with_reducible repeat (first | apply rA | apply rN | apply r1)); exact Kd.R_mono HO426.out (fun _ hk => hk.2)⟩, ⟨bE HB.out⟩⟩
      case rest =>
       clear HC18; (try clear c1); (try clear c2); (try clear c2b0); (try clear c2b1); (try clear p2); (try clear c4); (try clear c14); (try clear c14b0); (try clear c14b1); (try clear c15); (try clear c16); (try clear c16b0); (try clear c16b1); (try clear c20); (try clear c20b0); (try clear c20b1); (try clear p2); obtain ⟨kq, x55_17, rfl, HA, HJ17, HO_3, HO_8, HB⟩ := hcut; cases kq with
       | zero => exact absurd HA.out (by simp [laws_FnLexed.j1])
       | succ kj17 =>
        have H := HA.out; clear HA; simp only [laws_FnLexed.j1] at H
        by_cases c22 : x55_17 = true
        ·subst c22; have H1 : (some false) = some true := by rw [if_pos rfl] at H; exact H
         clear H; have H := H1; clear H1; exact absurd (Option.some.inj H) (by decide)
        ·replace c22 := Bool.eq_false_iff.mpr c22; subst c22; have H1 : (laws_FnLexed.l0 kj17 t412 t420 t422 t422 (t422.length : Int) 0) = some true := by rw [if_neg (show ¬ (false = true) by decide)] at H; exact H
         clear H; have H := H1; clear H1; have H' := sd H
         clear H; obtain ⟨Ao23, co23, eo23⟩ := Kd.R_slice HO_8.out; subst eo23; go_wp2
         repeat (go_quiet (fail); try go_wp2)
         go_loopg [58] kj17 (fun kq v58 w' => ∃ (x58_3 : Int), v58 = .int .i64 x58_3 ∧ Aside0 (laws_FnLexed.l0 kq t412 t420 t422 t422 (t422.length : Int) x58_3 = some true) ∧ Aside0 (kq ≤ kj17) ∧ Aside0 (Kd.R k35 35 w' w.heap.size (fun k_ => some k_ ≠ ((.slice Ao23 t422.length co23) : Value).ownBlock ∧ some k_ ≠ ((.slice Ao23 t422.length co23) : Value).ownBlock) (.slice Ao9 t412.length co9) t412) ∧ Aside0 (Kd.R k35 35 w' w.heap.size (fun k_ => some k_ ≠ ((.slice Ao9 t412.length co9) : Value).ownBlock) (.slice Ao23 t422.length co23) t422) ∧ Aside0 (Kd.R k35 35 w' w.heap.size (fun k_ => some k_ ≠ ((.slice Ao9 t412.length co9) : Value).ownBlock) (.slice Ao23 t422.length co23) t422) ∧ Aside0 (Below w.heap.size w w'))
         case atStart => exact ⟨(0), (by first | rfl | (simp [*]; done)), H', ⟨Nat.le_refl _⟩, ⟨by (with_reducible repeat (first | apply rA | apply rN | apply r1)); exact Kd.R_mono HO_3.out (fun _ hk => ⟨hk, hk⟩)⟩, ⟨rE HO_8.out⟩, ⟨rE HO_8.out⟩, ⟨bE HB.out⟩⟩
         case round =>
          clear H'; (try clear c1); (try clear c2); (try clear c2b0); (try clear c2b1); (try clear p2); (try clear c4); (try clear c14); (try clear c14b0); (try clear c14b1); (try clear c15); (try clear c16); (try clear c16b0); (try clear c16b1); (try clear c20); (try clear c20b0); (try clear c20b1); (try clear c22); (try clear p2); obtain ⟨x58_3, rfl, HA, HK3, HO_3, HO_8, HO_56, HB⟩ := hrel; cases gk with
          | zero => exact absurd HA.out (by simp [laws_FnLexed.l0])
          | succ k3 =>
           have H := HA.out; clear HA; simp only [laws_FnLexed.l0] at H
           by_cases c24 : x58_3 < (t422.length : Int)
           ·rw [if_pos c24] at H; have c24b0 : decide (x58_3 < (t422.length : Int)) = true := decide_eq_true c24; clear c24
            by_cases c25 : 0 ≤ x58_3
            ·rw [if_pos c25] at H; have c25b0 : decide (0 ≤ x58_3) = true := decide_eq_true c25; clear c25
             by_cases c26 : x58_3 < (t422.length : Int)
             ·rw [if_pos c26] at H; have c26b0 : decide (x58_3 < (t422.length : Int)) = true := decide_eq_true c26; clear c26
              by_cases c27 : x58_3 < (t412.length : Int)
              ·rw [if_pos c27] at H; have c27b0 : decide (x58_3 < (t412.length : Int)) = true := decide_eq_true c27; clear c27
               by_cases c28 : ((rd_T35 t422 x58_3).f0) = ((rd_T35 t412 x58_3).f0)
               ·rw [if_pos c28] at H; have c28b0 : (((rd_T35 t422 x58_3).f0) == ((rd_T35 t412 x58_3).f0)) = true := beq_iff_eq.mpr c28; have c28b1 : (((rd_T35 t422 x58_3).f0) != ((rd_T35 t412 x58_3).f0)) = false := bne_eq_false_iff_eq.mpr c28; clear c28
                by_cases c29 : ((rd_T35 t422 x58_3).f1).toList = ((rd_T35 t412 x58_3).f1).toList
                ·rw [if_pos c29] at H; have c29b0 : (((rd_T35 t422 x58_3).f1).toList == ((rd_T35 t412 x58_3).f1).toList) = true := beq_iff_eq.mpr c29; have c29b1 : (((rd_T35 t422 x58_3).f1).toList != ((rd_T35 t412 x58_3).f1).toList) = false := bne_eq_false_iff_eq.mpr c29; clear c29
                 by_cases c30 : x58_3 > 0
                 ·rw [if_pos c30] at H; have c30b0 : decide (0 < x58_3) = true := decide_eq_true c30; clear c30; obtain ⟨ji31, hji31⟩ : ∃ j_ : Int, (wrap64 (x58_3 - 1)) = j_ := ⟨_, rfl⟩; replace H : (if 0 ≤ (ji31) then (if (ji31) < (t422.length : Int) then (if ((rd_T35 t422 x58_3).f2) ≤ ((rd_T35 t422 (ji31)).f2) then (some false) else (laws_FnLexed.l0 k3 t412 t420 t422 t422 (t422.length : Int) (wrap64 (x58_3 + 1)))) else (none)) else (none)) = some true := by first | (rw [hji31] at H; exact H) | (simp only [hji31] at H ⊢; exact H)
                  have hji31w : (IntKind.i64.wrap (x58_3 - 1)) = ji31 := (i64_w _).trans hji31
                  by_cases c32 : 0 ≤ (ji31)
                  ·rw [if_pos c32] at H; have c32b0 : decide (0 ≤ (ji31)) = true := decide_eq_true c32; clear c32
                   by_cases c33 : (ji31) < (t422.length : Int)
                   ·rw [if_pos c33] at H; have c33b0 : decide ((ji31) < (t422.length : Int)) = true := decide_eq_true c33; clear c33
                    by_cases c34 : ((rd_T35 t422 x58_3).f2) ≤ ((rd_T35 t422 (ji31)).f2)
                    ·rw [if_pos c34] at H; have c34b0 : decide (((rd_T35 t422 x58_3).f2) ≤ ((rd_T35 t422 (ji31)).f2)) = true := decide_eq_true c34; clear c34; exact absurd (Option.some.inj H) (by decide)
                    ·rw [if_neg c34] at H; have c34b0 : decide (((rd_T35 t422 x58_3).f2) ≤ ((rd_T35 t422 (ji31)).f2)) = false := decide_eq_false c34; clear c34; have H' := sd H
                     clear H; have p427 : 0 ≤ (x58_3 : Int) := of_decide_eq_true (by assumption); have q427 : x58_3 < (t422.length : Int) := of_decide_eq_true (by assumption); obtain ⟨ad427, e427, hx427_0, hx427_1, hx427_2⟩ := at_T35 (Kd.R_reads' HO_56.out).2.2 x58_3 p427 q427; cases e427; replace p427 := eq_true p427; replace q427 := eq_true q427; have p429 : 0 ≤ (x58_3 : Int) := of_decide_eq_true (by assumption); have q429 : x58_3 < (t412.length : Int) := of_decide_eq_true (by assumption); obtain ⟨ad429, e429, hx429_0, hx429_1, hx429_2⟩ := at_T35 (Kd.R_reads' HO_3.out).2.2 x58_3 p429 q429; cases e429; replace p429 := eq_true p429; replace q429 := eq_true q429; have hy429_0 := fun (o_ : Obj) => (World.cell?_alloc_lt _ o_ _ (World.block_lt_of_cell? _ _ hx429_0)).trans hx429_0
                     have hy429_1 := fun (o_ : Obj) => (World.cell?_alloc_lt _ o_ _ (World.block_lt_of_cell? _ _ hx429_1)).trans hx429_1
                     have hy429_2 := fun (o_ : Obj) => (World.cell?_alloc_lt _ o_ _ (World.block_lt_of_cell? _ _ hx429_2)).trans hx429_2
                     have p431 : 0 ≤ ((ji31) : Int) := of_decide_eq_true (by assumption); have q431 : (ji31) < (t422.length : Int) := of_decide_eq_true (by assumption); obtain ⟨ad431, e431, hx431_0, hx431_1, hx431_2⟩ := at_T35 (Kd.R_reads' HO_8.out).2.2 (ji31) p431 q431; cases e431; replace p431 := eq_true p431; replace q431 := eq_true q431; have hy431_0 := fun (o_ : Obj) => (World.cell?_alloc_lt _ o_ _ (World.block_lt_of_cell? _ _ hx431_0)).trans hx431_0
                     have hy431_1 := fun (o_ : Obj) => (World.cell?_alloc_lt _ o_ _ (World.block_lt_of_cell? _ _ hx431_1)).trans hx431_1
                     have hy431_2 := fun (o_ : Obj) => (World.cell?_alloc_lt _ o_ _ (World.block_lt_of_cell? _ _ hx431_2)).trans hx431_2
                     go_wp2
                     repeat (go_quiet (fail); try go_wp2)
                     go_roundg k3
                     case measure => have := HJ6.out; have := HJ17.out; have := HK3.out; omega
                     case rel => exact ⟨wrap64 (x58_3 + 1), (by first | rfl | (simp [*]; done)), H', ⟨by have := HJ6.out; have := HJ17.out; have := HK3.out; omega⟩, ⟨rE HO_3.out⟩, ⟨rE HO_8.out⟩, ⟨rE HO_56.out⟩, ⟨bE HB.out⟩⟩
                   ·rw [if_neg c33] at H; exact absurd H (by simp)
                  ·rw [if_neg c32] at H; exact absurd H (by simp)
                 ·rw [if_neg c30] at H; have c30b0 : decide (0 < x58_3) = false := decide_eq_false c30; clear c30; have H' := sd H
                  clear H; have p427 : 0 ≤ (x58_3 : Int) := of_decide_eq_true (by assumption); have q427 : x58_3 < (t422.length : Int) := of_decide_eq_true (by assumption); obtain ⟨ad427, e427, hx427_0, hx427_1, hx427_2⟩ := at_T35 (Kd.R_reads' HO_56.out).2.2 x58_3 p427 q427; cases e427; replace p427 := eq_true p427; replace q427 := eq_true q427; have p429 : 0 ≤ (x58_3 : Int) := of_decide_eq_true (by assumption); have q429 : x58_3 < (t412.length : Int) := of_decide_eq_true (by assumption); obtain ⟨ad429, e429, hx429_0, hx429_1, hx429_2⟩ := at_T35 (Kd.R_reads' HO_3.out).2.2 x58_3 p429 q429; cases e429; replace p429 := eq_true p429; replace q429 := eq_true q429; have hy429_0 := fun (o_ : Obj) => (World.cell?_alloc_lt _ o_ _ (World.block_lt_of_cell? _ _ hx429_0)).trans hx429_0
                  have hy429_1 := fun (o_ : Obj) => (World.cell?_alloc_lt _ o_ _ (World.block_lt_of_cell? _ _ hx429_1)).trans hx429_1
                  have hy429_2 := fun (o_ : Obj) => (World.cell?_alloc_lt _ o_ _ (World.block_lt_of_cell? _ _ hx429_2)).trans hx429_2
                  go_wp2
                  repeat (go_quiet (fail); try go_wp2)
                  go_roundg k3
                  case measure => have := HJ6.out; have := HJ17.out; have := HK3.out; omega
                  case rel => exact ⟨wrap64 (x58_3 + 1), (by first | rfl | (simp [*]; done)), H', ⟨by have := HJ6.out; have := HJ17.out; have := HK3.out; omega⟩, ⟨rE HO_3.out⟩, ⟨rE HO_8.out⟩, ⟨rE HO_56.out⟩, ⟨bE HB.out⟩⟩
                ·rw [if_neg c29] at H; have c29b0 : (((rd_T35 t422 x58_3).f1).toList == ((rd_T35 t412 x58_3).f1).toList) = false := beq_eq_false_iff_ne.mpr c29; have c29b1 : (((rd_T35 t422 x58_3).f1).toList != ((rd_T35 t412 x58_3).f1).toList) = true := bne_iff_ne.mpr c29; exact absurd (Option.some.inj H) (by decide)
               ·rw [if_neg c28] at H; have c28b0 : (((rd_T35 t422 x58_3).f0) == ((rd_T35 t412 x58_3).f0)) = false := beq_eq_false_iff_ne.mpr c28; have c28b1 : (((rd_T35 t422 x58_3).f0) != ((rd_T35 t412 x58_3).f0)) = true := bne_iff_ne.mpr c28; exact absurd (Option.some.inj H) (by decide)
              ·rw [if_neg c27] at H; exact absurd H (by simp)
             ·rw [if_neg c26] at H; exact absurd H (by simp)
            ·rw [if_neg c25] at H; exact absurd H (by simp)
           ·rw [if_neg c24] at H; have c24b0 : decide (x58_3 < (t422.length : Int)) = false := decide_eq_false c24; clear c24; replace H := Option.bind_eq_some_iff.mp H; obtain ⟨⟨t432, t433⟩, A450, H⟩ := H; replace H : (if t433 = 0 then (some (t432.toList == t420.toList)) else (some false)) = some true := H; have A45 := sd A450; clear A450
            by_cases c46 : t433 = 0
            ·rw [if_pos c46] at H; have c46b0 : (t433 == 0) = true := beq_iff_eq.mpr c46; have c46b1 : (t433 != 0) = false := bne_eq_false_iff_eq.mpr c46; clear c46; have HE_ := sd (Option.some.inj H); clear H
             go_wp2_with (first | (go_at_call 8; (with_reducible refine (impl_Unlex.calls k3 _ _ t422 t432 t433 _ ?side1 ?side2 ?side3 A45.out).mono ?_); (case side1 => refine Tabs.below HT.out ?_; exact bE HB.out); (case side2 => repeat (first | exact (Kd.R_reads' HO_8.out).2.2 | (with_reducible refine cA ?_ _) | (with_reducible refine cN ?_ _) | (with_reducible refine c1_ ?_))); (case side3 => exact (Kd.R_reads' HO_8.out).2.1); rintro e w47 ⟨rfl, hb⟩; replace HO_3 := sd (Kd.R_below (rE HO_3.out) hb); replace HO_8 := sd (Kd.R_below (rE HO_8.out) hb); replace HO_56 := sd (Kd.R_below (rE HO_56.out) hb); replace HB := sd (bT (bE HB.out) hb); (try clear hb); (try clear hb2); (try clear hk); (try clear hi)))
             repeat (go_quiet (first | (go_at_call 8; (with_reducible refine (impl_Unlex.calls k3 _ _ t422 t432 t433 _ ?side1 ?side2 ?side3 A45.out).mono ?_); (case side1 => refine Tabs.below HT.out ?_; exact bE HB.out); (case side2 => repeat (first | exact (Kd.R_reads' HO_8.out).2.2 | (with_reducible refine cA ?_ _) | (with_reducible refine cN ?_ _) | (with_reducible refine c1_ ?_))); (case side3 => exact (Kd.R_reads' HO_8.out).2.1); rintro e w47 ⟨rfl, hb⟩; replace HO_3 := sd (Kd.R_below (rE HO_3.out) hb); replace HO_8 := sd (Kd.R_below (rE HO_8.out) hb); replace HO_56 := sd (Kd.R_below (rE HO_56.out) hb); replace HB := sd (bT (bE HB.out) hb); (try clear hb); (try clear hb2); (try clear hk); (try clear hi))); try go_wp2_with (first | (go_at_call 8; (with_reducible refine (impl_Unlex.calls k3 _ _ t422 t432 t433 _ ?side1 ?side2 ?side3 A45.out).mono ?_); (case side1 => refine Tabs.below HT.out ?_; exact bE HB.out); (case side2 => repeat (first | exact (Kd.R_reads' HO_8.out).2.2 | (with_reducible refine cA ?_ _) | (with_reducible refine cN ?_ _) | (with_reducible refine c1_ ?_))); (case side3 => exact (Kd.R_reads' HO_8.out).2.1); rintro e w47 ⟨rfl, hb⟩; replace HO_3 := sd (Kd.R_below (rE HO_3.out) hb); replace HO_8 := sd (Kd.R_below (rE HO_8.out) hb); replace HO_56 := sd (Kd.R_below (rE HO_56.out) hb); replace HB := sd (bT (bE HB.out) hb); (try clear hb); (try clear hb2); (try clear hk); (try clear hi))))
             go_ret
             exact ⟨by first | (exact congrArg (fun b_ => Ending.returned (Value.bool b_)) HE_.out) | rfl | (simp [errW_none, errW_some] <;> rfl) | (simp [*, errW_none, errW_some] <;> rfl), bE HB.out⟩
            ·rw [if_neg c46] at H; have c46b0 : (t433 == 0) = false := beq_eq_false_iff_ne.mpr c46; have c46b1 : (t433 != 0) = true := bne_iff_ne.mpr c46; exact absurd (Option.some.inj H) (by decide)
     ·rw [if_neg c16] at H; have c16b0 : (t416 == 0) = false := beq_eq_false_iff_ne.mpr c16; have c16b1 : (t416 != 0) = true := bne_iff_ne.mpr c16; clear H; go_wp2
      repeat (go_quiet (fail); try go_wp2)
      go_ret
      exact ⟨by first | rfl | (simp [*] <;> rfl), bE HB.out⟩
/-- THE ONE PURE STATEMENT of laws_FnLexed: yours. -/
def laws_FnLexed.Pure : Prop := ∀ (l0 : List Int), l0.length ≤ maxLen → l0.length * 1 ≤ 140737488351232 → (∀ x ∈ l0, (Lit.int .u8 x).wf = true) → ∃ k, laws_FnLexed.f k l0 = some true
theorem laws_FnLexed.walk (P : laws_FnLexed.Pure) (a0 : Option Addr) (len0 cap0 : Nat) (z0 : List Int) (w : World) (hT : Tabs w) (w0 : (a0 = none ∧ len0 = 0 ∧ cap0 = 0 ∧ z0 = []) ∨ ∃ x, a0 = some x ∧ len0 ≤ cap0 ∧ cap0 ≤ maxLen ∧ z0.length = cap0 ∧ (∀ i, i < z0.length → w.cell? (x.add i) = some (.int .u8 (z0.getD i 0))) ∧ ∀ n ∈ z0, (Lit.int .u8 n).wf = true) (y0 : len0 * 1 ≤ 140737488351232) :
  Calls Tryz.prog 4 #[.slice a0 len0 cap0] w fun e w' => e = .returned (.bool true) ∧ Below w.heap.size w w' := by
 obtain ⟨l0, rfl, hr0, hm0, hw0, hc0⟩ := ReadsInt.ofRowC w0; obtain ⟨k, h⟩ := P l0 hm0 y0 hw0
 refine (laws_FnLexed.calls k _ _ l0 w hT (Kd.C_of_reads (d := (0 : Int)) (h1 := fun _ => rfl) hr0) hc0 h).mono ?_
 rintro e w' ⟨rfl, hd⟩
 exact ⟨rfl, hd⟩

end Go.Proofs.YtackifpnpkbddaaGreatDoor.QFnLexed
