-- Laid by a program of the session's own (wip/tools/mp.py); not the kit's print.
import Derived.Test.YtackifpnpkbddaaGreatDoorQFnLexedx0
import Derived.Test.YtackifpnpkbddaaGreatDoorQFnLexedx2
namespace Go.Proofs.YtackifpnpkbddaaGreatDoor.QFnLexed
open Go.RowKit Go.Proofs.YtackifpnpkbddaaGreatDoorW.PrintWords Go.Proofs.YtackifpnpkbddaaGreatDoorW.PrintLast Go.Proofs.YtackifpnpkbddaaGreatDoorW.PrintMore Go.Proofs.YtackifpnpkbddaaGreatDoorScan
attribute [local go_sem] max2_int min2_int max_two min_two max_three min_three max_four min_four   -- for this text's walks alone
set_option linter.unusedVariables false
set_option linter.unusedSimpArgs false

/-! ### spec_ValueOK: function 29 -/
def spec_ValueOK.f (k : Nat) (a0_0 : Int) (a0_1 : Int) (a0_2 : ByteArray) : Option (Bool) := if a0_0 = 0 then (if a0_1 = 0 then (some (a0_2.toList == ([] : List UInt8))) else (some false)) else (if a0_0 = 1 then (some (a0_2.toList == ([] : List UInt8))) else (if a0_0 = 2 then (if a0_2.toList = ([] : List UInt8) then (if a0_1 ≥ (-999999999999999999) then (some (decide (a0_1 ≤ 999999999999999999))) else (some false)) else (some false)) else (if a0_0 = 3 then (if a0_1 = 0 then (if (a0_2.size : Int) > 1020 then (some false) else ((spec_l01Chars.f k a0_2).bind fun bt150 => (if bt150.2 = true then (some (decide ((bt150.1.length : Int) ≤ 255))) else (some false)))) else (some false)) else (if a0_0 = 4 then (if a0_2.toList = ([] : List UInt8) then (if a0_1 = 0 then (some true) else (some (a0_1 == 1))) else (some false)) else (if a0_0 = 5 then (if a0_2.toList = ([] : List UInt8) then (if a0_1 ≥ (-719162) then (some (decide (a0_1 ≤ 2932896))) else (some false)) else (some false)) else (some false))))))
theorem spec_ValueOK.mono : ∀ a0 a1 a2 k, LeO (spec_ValueOK.f k a0 a1 a2) (spec_ValueOK.f (k + 1) a0 a1 a2) := by
 intro a0 a1 a2 k
 unfold spec_ValueOK.f
 repeat' first
   | (with_reducible exact spec_l01Chars.mono _ _)
   | (with_reducible exact LeO.refl _)
   | (with_reducible exact LeO.none _)
   | (with_reducible refine LeO.ite ?_ ?_)
   | (with_reducible refine LeO.bind ?_ (fun _ => ?_))
   | exact spec_l01Chars.mono _ _
   | exact LeO.none _
   | refine LeO.ite ?_ ?_
   | refine LeO.bind ?_ (fun _ => ?_)
set_option maxHeartbeats 8000000 in
set_option maxRecDepth 100000 in
theorem spec_ValueOK.calls (k : Nat) (a0_0 : Int) (a0_1 : Int) (a0_2 : ByteArray) (r : Bool) (w : World) (h : spec_ValueOK.f k a0_0 a0_1 a0_2 = some r) :
  Calls Tryz.prog 29 #[.agg #[.int .i64 a0_0, .int .i64 a0_1, .string a0_2]] w fun e w' => e = .returned (.bool r) ∧ Below w.heap.size w w' := by
 have hu59 := Tryz.underlying59; have HB := sd (Below.refl w.heap.size w); have H : (if a0_0 = 0 then (if a0_1 = 0 then (some (a0_2.toList == ([] : List UInt8))) else (some false)) else (if a0_0 = 1 then (some (a0_2.toList == ([] : List UInt8))) else (if a0_0 = 2 then (if a0_2.toList = ([] : List UInt8) then (if a0_1 ≥ (-999999999999999999) then (some (decide (a0_1 ≤ 999999999999999999))) else (some false)) else (some false)) else (if a0_0 = 3 then (if a0_1 = 0 then (if (a0_2.size : Int) > 1020 then (some false) else ((spec_l01Chars.f k a0_2).bind fun bt150 => (if bt150.2 = true then (some (decide ((bt150.1.length : Int) ≤ 255))) else (some false)))) else (some false)) else (if a0_0 = 4 then (if a0_2.toList = ([] : List UInt8) then (if a0_1 = 0 then (some true) else (some (a0_1 == 1))) else (some false)) else (if a0_0 = 5 then (if a0_2.toList = ([] : List UInt8) then (if a0_1 ≥ (-719162) then (some (decide (a0_1 ≤ 2932896))) else (some false)) else (some false)) else (some false))))))) = some r := h; clear h
 by_cases c2 : a0_0 = 0
 ·rw [if_pos c2] at H; have c2b0 : (a0_0 == 0) = true := beq_iff_eq.mpr c2; have c2b1 : (a0_0 != 0) = false := bne_eq_false_iff_eq.mpr c2; clear c2
  by_cases c3 : a0_1 = 0
  ·rw [if_pos c3] at H; have c3b0 : (a0_1 == 0) = true := beq_iff_eq.mpr c3; have c3b1 : (a0_1 != 0) = false := bne_eq_false_iff_eq.mpr c3; clear c3; obtain rfl := Option.some.inj H
   go_enter Tryz.func29, Tryz.ntmps29
   go_wp2_with (first | ((with_reducible refine gate_dst (N := 1) rfl ?_); (try (refine gate_guard (by rfl) ?_; dsimp only)); refine box_event ?hg (N := 1) ?hd (cs := #[.int .i64 a0_0, .int .i64 a0_1, .string a0_2]) (t := 59) ?hr ?_; (case hd => rfl); (case hg => rfl); (case hr => go_simp <;> rfl); intro gb149 hg w4 hbox hb; have BK149 := sd (hbox); have GW149 := sd ((by rw [hg]; exact (bZ (bE HB.out)) : w.heap.size ≤ gb149)); have GE149 := GW149; replace HB := sd (bT (bE HB.out) hb); clear hb hbox hg; obtain ⟨hcz5_0, hcz5_1, hcz5_2, hfz5_0, hfz5_1, hfz5_2⟩ := row3 BK149.out))
   go_ret
   exact ⟨by first | rfl | (simp [*] <;> rfl), bE HB.out⟩
  ·rw [if_neg c3] at H; have c3b0 : (a0_1 == 0) = false := beq_eq_false_iff_ne.mpr c3; have c3b1 : (a0_1 != 0) = true := bne_iff_ne.mpr c3; obtain rfl := Option.some.inj H
   go_enter Tryz.func29, Tryz.ntmps29
   go_wp2_with (first | ((with_reducible refine gate_dst (N := 1) rfl ?_); (try (refine gate_guard (by rfl) ?_; dsimp only)); refine box_event ?hg (N := 1) ?hd (cs := #[.int .i64 a0_0, .int .i64 a0_1, .string a0_2]) (t := 59) ?hr ?_; (case hd => rfl); (case hg => rfl); (case hr => go_simp <;> rfl); intro gb149 hg w6 hbox hb; have BK149 := sd (hbox); have GW149 := sd ((by rw [hg]; exact (bZ (bE HB.out)) : w.heap.size ≤ gb149)); have GE149 := GW149; replace HB := sd (bT (bE HB.out) hb); clear hb hbox hg; obtain ⟨hcz7_0, hcz7_1, hcz7_2, hfz7_0, hfz7_1, hfz7_2⟩ := row3 BK149.out))
   go_ret
   exact ⟨by first | rfl | (simp [*] <;> rfl), bE HB.out⟩
 ·rw [if_neg c2] at H; have c2b0 : (a0_0 == 0) = false := beq_eq_false_iff_ne.mpr c2; have c2b1 : (a0_0 != 0) = true := bne_iff_ne.mpr c2
  by_cases c8 : a0_0 = 1
  ·rw [if_pos c8] at H; have c8b0 : (a0_0 == 1) = true := beq_iff_eq.mpr c8; have c8b1 : (a0_0 != 1) = false := bne_eq_false_iff_eq.mpr c8; clear c8; obtain rfl := Option.some.inj H
   go_enter Tryz.func29, Tryz.ntmps29
   go_wp2_with (first | ((with_reducible refine gate_dst (N := 1) rfl ?_); (try (refine gate_guard (by rfl) ?_; dsimp only)); refine box_event ?hg (N := 1) ?hd (cs := #[.int .i64 a0_0, .int .i64 a0_1, .string a0_2]) (t := 59) ?hr ?_; (case hd => rfl); (case hg => rfl); (case hr => go_simp <;> rfl); intro gb149 hg w9 hbox hb; have BK149 := sd (hbox); have GW149 := sd ((by rw [hg]; exact (bZ (bE HB.out)) : w.heap.size ≤ gb149)); have GE149 := GW149; replace HB := sd (bT (bE HB.out) hb); clear hb hbox hg; obtain ⟨hcz10_0, hcz10_1, hcz10_2, hfz10_0, hfz10_1, hfz10_2⟩ := row3 BK149.out))
   go_ret
   exact ⟨by first | rfl | (simp [*] <;> rfl), bE HB.out⟩
  ·rw [if_neg c8] at H; have c8b0 : (a0_0 == 1) = false := beq_eq_false_iff_ne.mpr c8; have c8b1 : (a0_0 != 1) = true := bne_iff_ne.mpr c8
   by_cases c11 : a0_0 = 2
   ·rw [if_pos c11] at H; have c11b0 : (a0_0 == 2) = true := beq_iff_eq.mpr c11; have c11b1 : (a0_0 != 2) = false := bne_eq_false_iff_eq.mpr c11; clear c11
    by_cases c12 : a0_2.toList = ([] : List UInt8)
    ·rw [if_pos c12] at H; have c12b0 : (a0_2.toList == ([] : List UInt8)) = true := beq_iff_eq.mpr c12; have c12b1 : (a0_2.toList != ([] : List UInt8)) = false := bne_eq_false_iff_eq.mpr c12; clear c12
     by_cases c13 : a0_1 ≥ (-999999999999999999)
     ·rw [if_pos c13] at H; have c13b0 : decide ((-999999999999999999) ≤ a0_1) = true := decide_eq_true c13; clear c13; obtain rfl := Option.some.inj H
      go_enter Tryz.func29, Tryz.ntmps29
      go_wp2_with (first | ((with_reducible refine gate_dst (N := 1) rfl ?_); (try (refine gate_guard (by rfl) ?_; dsimp only)); refine box_event ?hg (N := 1) ?hd (cs := #[.int .i64 a0_0, .int .i64 a0_1, .string a0_2]) (t := 59) ?hr ?_; (case hd => rfl); (case hg => rfl); (case hr => go_simp <;> rfl); intro gb149 hg w14 hbox hb; have BK149 := sd (hbox); have GW149 := sd ((by rw [hg]; exact (bZ (bE HB.out)) : w.heap.size ≤ gb149)); have GE149 := GW149; replace HB := sd (bT (bE HB.out) hb); clear hb hbox hg; obtain ⟨hcz15_0, hcz15_1, hcz15_2, hfz15_0, hfz15_1, hfz15_2⟩ := row3 BK149.out))
      go_ret
      exact ⟨by first | rfl | (simp [*] <;> rfl), bE HB.out⟩
     ·rw [if_neg c13] at H; have c13b0 : decide ((-999999999999999999) ≤ a0_1) = false := decide_eq_false c13; clear c13; obtain rfl := Option.some.inj H
      go_enter Tryz.func29, Tryz.ntmps29
      go_wp2_with (first | ((with_reducible refine gate_dst (N := 1) rfl ?_); (try (refine gate_guard (by rfl) ?_; dsimp only)); refine box_event ?hg (N := 1) ?hd (cs := #[.int .i64 a0_0, .int .i64 a0_1, .string a0_2]) (t := 59) ?hr ?_; (case hd => rfl); (case hg => rfl); (case hr => go_simp <;> rfl); intro gb149 hg w16 hbox hb; have BK149 := sd (hbox); have GW149 := sd ((by rw [hg]; exact (bZ (bE HB.out)) : w.heap.size ≤ gb149)); have GE149 := GW149; replace HB := sd (bT (bE HB.out) hb); clear hb hbox hg; obtain ⟨hcz17_0, hcz17_1, hcz17_2, hfz17_0, hfz17_1, hfz17_2⟩ := row3 BK149.out))
      go_ret
      exact ⟨by first | rfl | (simp [*] <;> rfl), bE HB.out⟩
    ·rw [if_neg c12] at H; have c12b0 : (a0_2.toList == ([] : List UInt8)) = false := beq_eq_false_iff_ne.mpr c12; have c12b1 : (a0_2.toList != ([] : List UInt8)) = true := bne_iff_ne.mpr c12; obtain rfl := Option.some.inj H
     go_enter Tryz.func29, Tryz.ntmps29
     go_wp2_with (first | ((with_reducible refine gate_dst (N := 1) rfl ?_); (try (refine gate_guard (by rfl) ?_; dsimp only)); refine box_event ?hg (N := 1) ?hd (cs := #[.int .i64 a0_0, .int .i64 a0_1, .string a0_2]) (t := 59) ?hr ?_; (case hd => rfl); (case hg => rfl); (case hr => go_simp <;> rfl); intro gb149 hg w18 hbox hb; have BK149 := sd (hbox); have GW149 := sd ((by rw [hg]; exact (bZ (bE HB.out)) : w.heap.size ≤ gb149)); have GE149 := GW149; replace HB := sd (bT (bE HB.out) hb); clear hb hbox hg; obtain ⟨hcz19_0, hcz19_1, hcz19_2, hfz19_0, hfz19_1, hfz19_2⟩ := row3 BK149.out))
     go_ret
     exact ⟨by first | rfl | (simp [*] <;> rfl), bE HB.out⟩
   ·rw [if_neg c11] at H; have c11b0 : (a0_0 == 2) = false := beq_eq_false_iff_ne.mpr c11; have c11b1 : (a0_0 != 2) = true := bne_iff_ne.mpr c11
    by_cases c20 : a0_0 = 3
    ·rw [if_pos c20] at H; have c20b0 : (a0_0 == 3) = true := beq_iff_eq.mpr c20; have c20b1 : (a0_0 != 3) = false := bne_eq_false_iff_eq.mpr c20; clear c20
     by_cases c21 : a0_1 = 0
     ·rw [if_pos c21] at H; have c21b0 : (a0_1 == 0) = true := beq_iff_eq.mpr c21; have c21b1 : (a0_1 != 0) = false := bne_eq_false_iff_eq.mpr c21; clear c21
      by_cases c22 : (a0_2.size : Int) > 1020
      ·rw [if_pos c22] at H; have c22b0 : decide (1020 < (a0_2.size : Int)) = true := decide_eq_true c22; have c22b1 : decide (1020 < a0_2.size) = true := decide_eq_true (by omega); clear c22; obtain rfl := Option.some.inj H
       go_enter Tryz.func29, Tryz.ntmps29
       go_wp2_with (first | ((with_reducible refine gate_dst (N := 1) rfl ?_); (try (refine gate_guard (by rfl) ?_; dsimp only)); refine box_event ?hg (N := 1) ?hd (cs := #[.int .i64 a0_0, .int .i64 a0_1, .string a0_2]) (t := 59) ?hr ?_; (case hd => rfl); (case hg => rfl); (case hr => go_simp <;> rfl); intro gb149 hg w23 hbox hb; have BK149 := sd (hbox); have GW149 := sd ((by rw [hg]; exact (bZ (bE HB.out)) : w.heap.size ≤ gb149)); have GE149 := GW149; replace HB := sd (bT (bE HB.out) hb); clear hb hbox hg; obtain ⟨hcz24_0, hcz24_1, hcz24_2, hfz24_0, hfz24_1, hfz24_2⟩ := row3 BK149.out))
       go_ret
       exact ⟨by first | rfl | (simp [*] <;> rfl), bE HB.out⟩
      ·rw [if_neg c22] at H; have c22b0 : decide (1020 < (a0_2.size : Int)) = false := decide_eq_false c22; have c22b1 : decide (1020 < a0_2.size) = false := decide_eq_false (by omega); clear c22; replace H := Option.bind_eq_some_iff.mp H; obtain ⟨⟨t150, t151⟩, A250, H⟩ := H; replace H : (if t151 = true then (some (decide ((t150.length : Int) ≤ 255))) else (some false)) = some r := H; have A25 := sd A250; clear A250
       by_cases c26 : t151 = true
       ·subst c26; have H1 : (some (decide ((t150.length : Int) ≤ 255))) = some r := by rw [if_pos rfl] at H; exact H
        clear H; have H := H1; clear H1; obtain rfl := Option.some.inj H
        go_enter Tryz.func29, Tryz.ntmps29
        go_wp2_with (first | ((with_reducible refine gate_dst (N := 1) rfl ?_); (try (refine gate_guard (by rfl) ?_; dsimp only)); refine box_event ?hg (N := 1) ?hd (cs := #[.int .i64 a0_0, .int .i64 a0_1, .string a0_2]) (t := 59) ?hr ?_; (case hd => rfl); (case hg => rfl); (case hr => go_simp <;> rfl); intro gb149 hg w27 hbox hb; have BK149 := sd (hbox); have GW149 := sd ((by rw [hg]; exact (bZ (bE HB.out)) : w.heap.size ≤ gb149)); have GE149 := GW149; replace HB := sd (bT (bE HB.out) hb); clear hb hbox hg; obtain ⟨hcz28_0, hcz28_1, hcz28_2, hfz28_0, hfz28_1, hfz28_2⟩ := row3 BK149.out) | ((with_reducible refine gate_callee (f := 49) rfl ?_); refine goesL_ (some 51) rfl rfl Tryz.func49 (by kernel_rfl) rfl #[.string a0_2] rfl (by (try simp only [List.map_toArray, List.map_cons, List.map_nil]); first | done | rfl) ?_; (with_reducible refine (spec_l01Chars.calls k a0_2 t150 true _ A25.out).mono ?_); rintro e w29 ⟨v152, rfl, ho0, hb⟩; refine ⟨_, rfl, ?_⟩; have HO153 := sd (Kd.R_lower ho0 (bZ (bE HB.out))); replace BK149 := sd (blk_below (g := gb149) (o := .cells #[.int .i64 a0_0, .int .i64 a0_1, .string a0_2] 59 (0, 0)) (kE BK149.out) hb); replace HB := sd (bT (bE HB.out) hb); (try clear hb); (try clear hb2); (try clear hk); (try clear hi); (try clear ho0); obtain ⟨Ao30, co30, eo30⟩ := Kd.R_slice HO153.out; subst eo30))
        go_ret
        exact ⟨by first | rfl | (simp [*] <;> rfl), bE HB.out⟩
       ·replace c26 := Bool.eq_false_iff.mpr c26; subst c26; have H1 : (some false) = some r := by rw [if_neg (show ¬ (false = true) by decide)] at H; exact H
        clear H; have H := H1; clear H1; obtain rfl := Option.some.inj H
        go_enter Tryz.func29, Tryz.ntmps29
        go_wp2_with (first | ((with_reducible refine gate_dst (N := 1) rfl ?_); (try (refine gate_guard (by rfl) ?_; dsimp only)); refine box_event ?hg (N := 1) ?hd (cs := #[.int .i64 a0_0, .int .i64 a0_1, .string a0_2]) (t := 59) ?hr ?_; (case hd => rfl); (case hg => rfl); (case hr => go_simp <;> rfl); intro gb149 hg w31 hbox hb; have BK149 := sd (hbox); have GW149 := sd ((by rw [hg]; exact (bZ (bE HB.out)) : w.heap.size ≤ gb149)); have GE149 := GW149; replace HB := sd (bT (bE HB.out) hb); clear hb hbox hg; obtain ⟨hcz32_0, hcz32_1, hcz32_2, hfz32_0, hfz32_1, hfz32_2⟩ := row3 BK149.out) | ((with_reducible refine gate_callee (f := 49) rfl ?_); refine goesL_ (some 51) rfl rfl Tryz.func49 (by kernel_rfl) rfl #[.string a0_2] rfl (by (try simp only [List.map_toArray, List.map_cons, List.map_nil]); first | done | rfl) ?_; (with_reducible refine (spec_l01Chars.calls k a0_2 t150 false _ A25.out).mono ?_); rintro e w33 ⟨v152, rfl, ho0, hb⟩; refine ⟨_, rfl, ?_⟩; have HO153 := sd (Kd.R_lower ho0 (bZ (bE HB.out))); replace BK149 := sd (blk_below (g := gb149) (o := .cells #[.int .i64 a0_0, .int .i64 a0_1, .string a0_2] 59 (0, 0)) (kE BK149.out) hb); replace HB := sd (bT (bE HB.out) hb); (try clear hb); (try clear hb2); (try clear hk); (try clear hi); (try clear ho0)))
        go_ret
        exact ⟨by first | rfl | (simp [*] <;> rfl), bE HB.out⟩
     ·rw [if_neg c21] at H; have c21b0 : (a0_1 == 0) = false := beq_eq_false_iff_ne.mpr c21; have c21b1 : (a0_1 != 0) = true := bne_iff_ne.mpr c21; obtain rfl := Option.some.inj H
      go_enter Tryz.func29, Tryz.ntmps29
      go_wp2_with (first | ((with_reducible refine gate_dst (N := 1) rfl ?_); (try (refine gate_guard (by rfl) ?_; dsimp only)); refine box_event ?hg (N := 1) ?hd (cs := #[.int .i64 a0_0, .int .i64 a0_1, .string a0_2]) (t := 59) ?hr ?_; (case hd => rfl); (case hg => rfl); (case hr => go_simp <;> rfl); intro gb149 hg w34 hbox hb; have BK149 := sd (hbox); have GW149 := sd ((by rw [hg]; exact (bZ (bE HB.out)) : w.heap.size ≤ gb149)); have GE149 := GW149; replace HB := sd (bT (bE HB.out) hb); clear hb hbox hg; obtain ⟨hcz35_0, hcz35_1, hcz35_2, hfz35_0, hfz35_1, hfz35_2⟩ := row3 BK149.out))
      go_ret
      exact ⟨by first | rfl | (simp [*] <;> rfl), bE HB.out⟩
    ·rw [if_neg c20] at H; have c20b0 : (a0_0 == 3) = false := beq_eq_false_iff_ne.mpr c20; have c20b1 : (a0_0 != 3) = true := bne_iff_ne.mpr c20
     by_cases c36 : a0_0 = 4
     ·rw [if_pos c36] at H; have c36b0 : (a0_0 == 4) = true := beq_iff_eq.mpr c36; have c36b1 : (a0_0 != 4) = false := bne_eq_false_iff_eq.mpr c36; clear c36
      by_cases c37 : a0_2.toList = ([] : List UInt8)
      ·rw [if_pos c37] at H; have c37b0 : (a0_2.toList == ([] : List UInt8)) = true := beq_iff_eq.mpr c37; have c37b1 : (a0_2.toList != ([] : List UInt8)) = false := bne_eq_false_iff_eq.mpr c37; clear c37
       by_cases c38 : a0_1 = 0
       ·rw [if_pos c38] at H; have c38b0 : (a0_1 == 0) = true := beq_iff_eq.mpr c38; have c38b1 : (a0_1 != 0) = false := bne_eq_false_iff_eq.mpr c38; clear c38; obtain rfl := Option.some.inj H
        go_enter Tryz.func29, Tryz.ntmps29
        go_wp2_with (first | ((with_reducible refine gate_dst (N := 1) rfl ?_); (try (refine gate_guard (by rfl) ?_; dsimp only)); refine box_event ?hg (N := 1) ?hd (cs := #[.int .i64 a0_0, .int .i64 a0_1, .string a0_2]) (t := 59) ?hr ?_; (case hd => rfl); (case hg => rfl); (case hr => go_simp <;> rfl); intro gb149 hg w39 hbox hb; have BK149 := sd (hbox); have GW149 := sd ((by rw [hg]; exact (bZ (bE HB.out)) : w.heap.size ≤ gb149)); have GE149 := GW149; replace HB := sd (bT (bE HB.out) hb); clear hb hbox hg; obtain ⟨hcz40_0, hcz40_1, hcz40_2, hfz40_0, hfz40_1, hfz40_2⟩ := row3 BK149.out))
        go_ret
        exact ⟨by first | rfl | (simp [*] <;> rfl), bE HB.out⟩
       ·rw [if_neg c38] at H; have c38b0 : (a0_1 == 0) = false := beq_eq_false_iff_ne.mpr c38; have c38b1 : (a0_1 != 0) = true := bne_iff_ne.mpr c38; obtain rfl := Option.some.inj H
        go_enter Tryz.func29, Tryz.ntmps29
        go_wp2_with (first | ((with_reducible refine gate_dst (N := 1) rfl ?_); (try (refine gate_guard (by rfl) ?_; dsimp only)); refine box_event ?hg (N := 1) ?hd (cs := #[.int .i64 a0_0, .int .i64 a0_1, .string a0_2]) (t := 59) ?hr ?_; (case hd => rfl); (case hg => rfl); (case hr => go_simp <;> rfl); intro gb149 hg w41 hbox hb; have BK149 := sd (hbox); have GW149 := sd ((by rw [hg]; exact (bZ (bE HB.out)) : w.heap.size ≤ gb149)); have GE149 := GW149; replace HB := sd (bT (bE HB.out) hb); clear hb hbox hg; obtain ⟨hcz42_0, hcz42_1, hcz42_2, hfz42_0, hfz42_1, hfz42_2⟩ := row3 BK149.out))
        go_ret
        exact ⟨by first | rfl | (simp [*] <;> rfl), bE HB.out⟩
      ·rw [if_neg c37] at H; have c37b0 : (a0_2.toList == ([] : List UInt8)) = false := beq_eq_false_iff_ne.mpr c37; have c37b1 : (a0_2.toList != ([] : List UInt8)) = true := bne_iff_ne.mpr c37; obtain rfl := Option.some.inj H
       go_enter Tryz.func29, Tryz.ntmps29
       go_wp2_with (first | ((with_reducible refine gate_dst (N := 1) rfl ?_); (try (refine gate_guard (by rfl) ?_; dsimp only)); refine box_event ?hg (N := 1) ?hd (cs := #[.int .i64 a0_0, .int .i64 a0_1, .string a0_2]) (t := 59) ?hr ?_; (case hd => rfl); (case hg => rfl); (case hr => go_simp <;> rfl); intro gb149 hg w43 hbox hb; have BK149 := sd (hbox); have GW149 := sd ((by rw [hg]; exact (bZ (bE HB.out)) : w.heap.size ≤ gb149)); have GE149 := GW149; replace HB := sd (bT (bE HB.out) hb); clear hb hbox hg; obtain ⟨hcz44_0, hcz44_1, hcz44_2, hfz44_0, hfz44_1, hfz44_2⟩ := row3 BK149.out))
       go_ret
       exact ⟨by first | rfl | (simp [*] <;> rfl), bE HB.out⟩
     ·rw [if_neg c36] at H; have c36b0 : (a0_0 == 4) = false := beq_eq_false_iff_ne.mpr c36; have c36b1 : (a0_0 != 4) = true := bne_iff_ne.mpr c36
      by_cases c45 : a0_0 = 5
      ·rw [if_pos c45] at H; have c45b0 : (a0_0 == 5) = true := beq_iff_eq.mpr c45; have c45b1 : (a0_0 != 5) = false := bne_eq_false_iff_eq.mpr c45; clear c45
       by_cases c46 : a0_2.toList = ([] : List UInt8)
       ·rw [if_pos c46] at H; have c46b0 : (a0_2.toList == ([] : List UInt8)) = true := beq_iff_eq.mpr c46; have c46b1 : (a0_2.toList != ([] : List UInt8)) = false := bne_eq_false_iff_eq.mpr c46; clear c46
        by_cases c47 : a0_1 ≥ (-719162)
        ·rw [if_pos c47] at H; have c47b0 : decide ((-719162) ≤ a0_1) = true := decide_eq_true c47; clear c47; obtain rfl := Option.some.inj H
         go_enter Tryz.func29, Tryz.ntmps29
         go_wp2_with (first | ((with_reducible refine gate_dst (N := 1) rfl ?_); (try (refine gate_guard (by rfl) ?_; dsimp only)); refine box_event ?hg (N := 1) ?hd (cs := #[.int .i64 a0_0, .int .i64 a0_1, .string a0_2]) (t := 59) ?hr ?_; (case hd => rfl); (case hg => rfl); (case hr => go_simp <;> rfl); intro gb149 hg w48 hbox hb; have BK149 := sd (hbox); have GW149 := sd ((by rw [hg]; exact (bZ (bE HB.out)) : w.heap.size ≤ gb149)); have GE149 := GW149; replace HB := sd (bT (bE HB.out) hb); clear hb hbox hg; obtain ⟨hcz49_0, hcz49_1, hcz49_2, hfz49_0, hfz49_1, hfz49_2⟩ := row3 BK149.out))
         go_ret
         exact ⟨by first | rfl | (simp [*] <;> rfl), bE HB.out⟩
        ·rw [if_neg c47] at H; have c47b0 : decide ((-719162) ≤ a0_1) = false := decide_eq_false c47; clear c47; obtain rfl := Option.some.inj H
         go_enter Tryz.func29, Tryz.ntmps29
         go_wp2_with (first | ((with_reducible refine gate_dst (N := 1) rfl ?_); (try (refine gate_guard (by rfl) ?_; dsimp only)); refine box_event ?hg (N := 1) ?hd (cs := #[.int .i64 a0_0, .int .i64 a0_1, .string a0_2]) (t := 59) ?hr ?_; (case hd => rfl); (case hg => rfl); (case hr => go_simp <;> rfl); intro gb149 hg w50 hbox hb; have BK149 := sd (hbox); have GW149 := sd ((by rw [hg]; exact (bZ (bE HB.out)) : w.heap.size ≤ gb149)); have GE149 := GW149; replace HB := sd (bT (bE HB.out) hb); clear hb hbox hg; obtain ⟨hcz51_0, hcz51_1, hcz51_2, hfz51_0, hfz51_1, hfz51_2⟩ := row3 BK149.out))
         go_ret
         exact ⟨by first | rfl | (simp [*] <;> rfl), bE HB.out⟩
       ·rw [if_neg c46] at H; have c46b0 : (a0_2.toList == ([] : List UInt8)) = false := beq_eq_false_iff_ne.mpr c46; have c46b1 : (a0_2.toList != ([] : List UInt8)) = true := bne_iff_ne.mpr c46; obtain rfl := Option.some.inj H
        go_enter Tryz.func29, Tryz.ntmps29
        go_wp2_with (first | ((with_reducible refine gate_dst (N := 1) rfl ?_); (try (refine gate_guard (by rfl) ?_; dsimp only)); refine box_event ?hg (N := 1) ?hd (cs := #[.int .i64 a0_0, .int .i64 a0_1, .string a0_2]) (t := 59) ?hr ?_; (case hd => rfl); (case hg => rfl); (case hr => go_simp <;> rfl); intro gb149 hg w52 hbox hb; have BK149 := sd (hbox); have GW149 := sd ((by rw [hg]; exact (bZ (bE HB.out)) : w.heap.size ≤ gb149)); have GE149 := GW149; replace HB := sd (bT (bE HB.out) hb); clear hb hbox hg; obtain ⟨hcz53_0, hcz53_1, hcz53_2, hfz53_0, hfz53_1, hfz53_2⟩ := row3 BK149.out))
        go_ret
        exact ⟨by first | rfl | (simp [*] <;> rfl), bE HB.out⟩
      ·rw [if_neg c45] at H; have c45b0 : (a0_0 == 5) = false := beq_eq_false_iff_ne.mpr c45; have c45b1 : (a0_0 != 5) = true := bne_iff_ne.mpr c45; obtain rfl := Option.some.inj H
       go_enter Tryz.func29, Tryz.ntmps29
       go_wp2_with (first | ((with_reducible refine gate_dst (N := 1) rfl ?_); (try (refine gate_guard (by rfl) ?_; dsimp only)); refine box_event ?hg (N := 1) ?hd (cs := #[.int .i64 a0_0, .int .i64 a0_1, .string a0_2]) (t := 59) ?hr ?_; (case hd => rfl); (case hg => rfl); (case hr => go_simp <;> rfl); intro gb149 hg w54 hbox hb; have BK149 := sd (hbox); have GW149 := sd ((by rw [hg]; exact (bZ (bE HB.out)) : w.heap.size ≤ gb149)); have GE149 := GW149; replace HB := sd (bT (bE HB.out) hb); clear hb hbox hg; obtain ⟨hcz55_0, hcz55_1, hcz55_2, hfz55_0, hfz55_1, hfz55_2⟩ := row3 BK149.out))
       go_ret
       exact ⟨by first | rfl | (simp [*] <;> rfl), bE HB.out⟩

/-! ### spec_l02SignAt: function 30 -/
def spec_l02SignAt.l0 : Nat → ByteArray → Int → List ByteArray → Int → Int → Option (ByteArray)
 | 0, _, _, _, _, _ => none
 | k + 1, x0, x1, x9, x10, x11 => if x11 < x10 then (if 0 ≤ x11 then (if x11 < (x9.length : Int) then (if (wrap64 (x1 + ((rdOf ByteArray.empty x9 x11).size : Int))) ≤ (x0.size : Int) then (if 0 ≤ x1 then (if x1 ≤ (wrap64 (x1 + ((rdOf ByteArray.empty x9 x11).size : Int))) then (if (x0.extract (x1 : Int).toNat ((wrap64 (x1 + ((rdOf ByteArray.empty x9 x11).size : Int))) : Int).toNat).toList = (rdOf ByteArray.empty x9 x11).toList then (some (rdOf ByteArray.empty x9 x11)) else (spec_l02SignAt.l0 k x0 x1 x9 x10 (wrap64 (x11 + 1)))) else (none)) else (none)) else (spec_l02SignAt.l0 k x0 x1 x9 x10 (wrap64 (x11 + 1)))) else (none)) else (none)) else (some (⟨#[]⟩ : ByteArray))
def spec_l02SignAt.f (k : Nat) (a0 : ByteArray) (a1 : Int) : Option (ByteArray) := (some (([(⟨#[60, 61]⟩ : ByteArray), (⟨#[62, 61]⟩ : ByteArray), (⟨#[60, 62]⟩ : ByteArray), (⟨#[33, 61]⟩ : ByteArray), (⟨#[124, 124]⟩ : ByteArray), (⟨#[40]⟩ : ByteArray), (⟨#[41]⟩ : ByteArray), (⟨#[44]⟩ : ByteArray), (⟨#[46]⟩ : ByteArray), (⟨#[59]⟩ : ByteArray), (⟨#[43]⟩ : ByteArray), (⟨#[45]⟩ : ByteArray), (⟨#[42]⟩ : ByteArray), (⟨#[47]⟩ : ByteArray), (⟨#[37]⟩ : ByteArray), (⟨#[61]⟩ : ByteArray), (⟨#[60]⟩ : ByteArray), (⟨#[62]⟩ : ByteArray)] : List ByteArray) : List ByteArray)).bind fun y154 => (spec_l02SignAt.l0 k a0 a1 y154 (y154.length : Int) 0)
theorem spec_l02SignAt.mono_l : ∀ k, (∀ y0 y1 y2 y3 y4, LeO (spec_l02SignAt.l0 k y0 y1 y2 y3 y4) (spec_l02SignAt.l0 (k + 1) y0 y1 y2 y3 y4))
 | 0 => fun _ _ _ _ _ r h => by simp [spec_l02SignAt.l0] at h
 | k + 1 => by
  have ih0 := spec_l02SignAt.mono_l k
  ·intro y0 y1 y2 y3 y4
   unfold spec_l02SignAt.l0
   repeat' first
   | (with_reducible exact ih0 _ _ _ _ _)
   | (with_reducible exact LeO.refl _)
   | (with_reducible exact LeO.none _)
   | (with_reducible refine LeO.ite ?_ ?_)
   | (with_reducible refine LeO.bind ?_ (fun _ => ?_))
   | exact ih0 _ _ _ _ _
   | exact LeO.none _
   | refine LeO.ite ?_ ?_
   | refine LeO.bind ?_ (fun _ => ?_)
theorem spec_l02SignAt.mono : ∀ a0 a1 k, LeO (spec_l02SignAt.f k a0 a1) (spec_l02SignAt.f (k + 1) a0 a1) := by
 intro a0 a1 k
 have ih0 := spec_l02SignAt.mono_l k
 unfold spec_l02SignAt.f
 repeat' first
   | (with_reducible exact ih0 _ _ _ _ _)
   | (with_reducible exact LeO.refl _)
   | (with_reducible exact LeO.none _)
   | (with_reducible refine LeO.ite ?_ ?_)
   | (with_reducible refine LeO.bind ?_ (fun _ => ?_))
   | exact ih0 _ _ _ _ _
   | exact LeO.none _
   | refine LeO.ite ?_ ?_
   | refine LeO.bind ?_ (fun _ => ?_)
set_option maxHeartbeats 8000000 in
set_option maxRecDepth 100000 in
theorem spec_l02SignAt.calls (k : Nat) (a0 : ByteArray) (a1 : Int) (r : ByteArray) (w : World) (h : spec_l02SignAt.f k a0 a1 = some r) :
  Calls Tryz.prog 30 #[.string a0, .int .i64 a1] w fun e w' => e = .returned (.string r) ∧ Below w.heap.size w w' := by
 have HB := sd (Below.refl w.heap.size w); have H : ((some (([(⟨#[60, 61]⟩ : ByteArray), (⟨#[62, 61]⟩ : ByteArray), (⟨#[60, 62]⟩ : ByteArray), (⟨#[33, 61]⟩ : ByteArray), (⟨#[124, 124]⟩ : ByteArray), (⟨#[40]⟩ : ByteArray), (⟨#[41]⟩ : ByteArray), (⟨#[44]⟩ : ByteArray), (⟨#[46]⟩ : ByteArray), (⟨#[59]⟩ : ByteArray), (⟨#[43]⟩ : ByteArray), (⟨#[45]⟩ : ByteArray), (⟨#[42]⟩ : ByteArray), (⟨#[47]⟩ : ByteArray), (⟨#[37]⟩ : ByteArray), (⟨#[61]⟩ : ByteArray), (⟨#[60]⟩ : ByteArray), (⟨#[62]⟩ : ByteArray)] : List ByteArray) : List ByteArray)).bind fun y154 => (spec_l02SignAt.l0 k a0 a1 y154 (y154.length : Int) 0)) = some r := h; clear h; obtain ⟨y154, hy154⟩ : ∃ y_ : List ByteArray, y_ = (([(⟨#[60, 61]⟩ : ByteArray), (⟨#[62, 61]⟩ : ByteArray), (⟨#[60, 62]⟩ : ByteArray), (⟨#[33, 61]⟩ : ByteArray), (⟨#[124, 124]⟩ : ByteArray), (⟨#[40]⟩ : ByteArray), (⟨#[41]⟩ : ByteArray), (⟨#[44]⟩ : ByteArray), (⟨#[46]⟩ : ByteArray), (⟨#[59]⟩ : ByteArray), (⟨#[43]⟩ : ByteArray), (⟨#[45]⟩ : ByteArray), (⟨#[42]⟩ : ByteArray), (⟨#[47]⟩ : ByteArray), (⟨#[37]⟩ : ByteArray), (⟨#[61]⟩ : ByteArray), (⟨#[60]⟩ : ByteArray), (⟨#[62]⟩ : ByteArray)] : List ByteArray)) := ⟨_, rfl⟩; replace H : (spec_l02SignAt.l0 k a0 a1 y154 (y154.length : Int) 0) = some r := by first | (rw [hy154]; with_reducible exact H) | (have H2_ := (Option.bind_some _ _).symm.trans H; rw [hy154]; with_reducible exact H2_) | (have H2_ := (Option.bind_some _ _).symm.trans H; with_reducible exact H2_) | with_reducible exact H | (rw [hy154]; exact H) | exact H
 have Ny154 := sd hy154; clear hy154; have H' := sd H
 clear H
 go_enter Tryz.func30, Tryz.ntmps30
 go_wp2_with (first | ((with_reducible refine gate_dst (N := 8) rfl ?_); (try (refine gate_guard (by rfl) ?_; dsimp only)); refine Kd.R_lit Kd.string _ 9 ?hg (N := 8) ?hd (xs := ([(⟨#[60, 61]⟩ : ByteArray), (⟨#[62, 61]⟩ : ByteArray), (⟨#[60, 62]⟩ : ByteArray), (⟨#[33, 61]⟩ : ByteArray), (⟨#[124, 124]⟩ : ByteArray), (⟨#[40]⟩ : ByteArray), (⟨#[41]⟩ : ByteArray), (⟨#[44]⟩ : ByteArray), (⟨#[46]⟩ : ByteArray), (⟨#[59]⟩ : ByteArray), (⟨#[43]⟩ : ByteArray), (⟨#[45]⟩ : ByteArray), (⟨#[42]⟩ : ByteArray), (⟨#[47]⟩ : ByteArray), (⟨#[37]⟩ : ByteArray), (⟨#[61]⟩ : ByteArray), (⟨#[60]⟩ : ByteArray), (⟨#[62]⟩ : ByteArray)] : List ByteArray)) (inner := [.string (⟨#[60, 61]⟩ : ByteArray), .string (⟨#[62, 61]⟩ : ByteArray), .string (⟨#[60, 62]⟩ : ByteArray), .string (⟨#[33, 61]⟩ : ByteArray), .string (⟨#[124, 124]⟩ : ByteArray), .string (⟨#[40]⟩ : ByteArray), .string (⟨#[41]⟩ : ByteArray), .string (⟨#[44]⟩ : ByteArray), .string (⟨#[46]⟩ : ByteArray), .string (⟨#[59]⟩ : ByteArray), .string (⟨#[43]⟩ : ByteArray), .string (⟨#[45]⟩ : ByteArray), .string (⟨#[42]⟩ : ByteArray), .string (⟨#[47]⟩ : ByteArray), .string (⟨#[37]⟩ : ByteArray), .string (⟨#[61]⟩ : ByteArray), .string (⟨#[60]⟩ : ByteArray), .string (⟨#[62]⟩ : ByteArray)]) (ok := fun _ => True) (okp := fun _ => True) ?hr ?hp (fun _ hk => hk) trivial (Below.refl _ _) (Nat.le_refl _) (by simp) ?_; (case hd => rfl); (case hg => rfl); (case hr => go_simp <;> rfl); (case hp => exact (Reps.one (show Kd.M Kd.string _ _ _ (⟨#[60, 61]⟩ : ByteArray) [.string (⟨#[60, 61]⟩ : ByteArray)] from rfl) (Reps.one (show Kd.M Kd.string _ _ _ (⟨#[62, 61]⟩ : ByteArray) [.string (⟨#[62, 61]⟩ : ByteArray)] from rfl) (Reps.one (show Kd.M Kd.string _ _ _ (⟨#[60, 62]⟩ : ByteArray) [.string (⟨#[60, 62]⟩ : ByteArray)] from rfl) (Reps.one (show Kd.M Kd.string _ _ _ (⟨#[33, 61]⟩ : ByteArray) [.string (⟨#[33, 61]⟩ : ByteArray)] from rfl) (Reps.one (show Kd.M Kd.string _ _ _ (⟨#[124, 124]⟩ : ByteArray) [.string (⟨#[124, 124]⟩ : ByteArray)] from rfl) (Reps.one (show Kd.M Kd.string _ _ _ (⟨#[40]⟩ : ByteArray) [.string (⟨#[40]⟩ : ByteArray)] from rfl) (Reps.one (show Kd.M Kd.string _ _ _ (⟨#[41]⟩ : ByteArray) [.string (⟨#[41]⟩ : ByteArray)] from rfl) (Reps.one (show Kd.M Kd.string _ _ _ (⟨#[44]⟩ : ByteArray) [.string (⟨#[44]⟩ : ByteArray)] from rfl) (Reps.one (show Kd.M Kd.string _ _ _ (⟨#[46]⟩ : ByteArray) [.string (⟨#[46]⟩ : ByteArray)] from rfl) (Reps.one (show Kd.M Kd.string _ _ _ (⟨#[59]⟩ : ByteArray) [.string (⟨#[59]⟩ : ByteArray)] from rfl) (Reps.one (show Kd.M Kd.string _ _ _ (⟨#[43]⟩ : ByteArray) [.string (⟨#[43]⟩ : ByteArray)] from rfl) (Reps.one (show Kd.M Kd.string _ _ _ (⟨#[45]⟩ : ByteArray) [.string (⟨#[45]⟩ : ByteArray)] from rfl) (Reps.one (show Kd.M Kd.string _ _ _ (⟨#[42]⟩ : ByteArray) [.string (⟨#[42]⟩ : ByteArray)] from rfl) (Reps.one (show Kd.M Kd.string _ _ _ (⟨#[47]⟩ : ByteArray) [.string (⟨#[47]⟩ : ByteArray)] from rfl) (Reps.one (show Kd.M Kd.string _ _ _ (⟨#[37]⟩ : ByteArray) [.string (⟨#[37]⟩ : ByteArray)] from rfl) (Reps.one (show Kd.M Kd.string _ _ _ (⟨#[61]⟩ : ByteArray) [.string (⟨#[61]⟩ : ByteArray)] from rfl) (Reps.one (show Kd.M Kd.string _ _ _ (⟨#[60]⟩ : ByteArray) [.string (⟨#[60]⟩ : ByteArray)] from rfl) (Reps.one (show Kd.M Kd.string _ _ _ (⟨#[62]⟩ : ByteArray) [.string (⟨#[62]⟩ : ByteArray)] from rfl) (Reps.none _ _)))))))))))))))))))); intro v155 w3 ho4 hb hg_ hnew_; clear hg_ hnew_; (first | rw [← Ny154.out] at ho4 | (simp only [Int.reduceToNat] at ho4; rw [← Ny154.out] at ho4)); have HO156 := sd (Kd.R_lower ho4 (bZ (bE HB.out))); replace HB := sd (bT (bE HB.out) hb); clear hb ho4; obtain ⟨Ao5, co5, eo5⟩ := Kd.R_slice HO156.out; subst eo5))
 go_loopg [11] k (fun kq v11 w' => ∃ (x11_1 : Int), v11 = .int .i64 x11_1 ∧ Aside0 (spec_l02SignAt.l0 kq a0 a1 y154 (y154.length : Int) x11_1 = some r) ∧ Aside0 (kq ≤ k) ∧ Aside0 (Kd.R Kd.string 9 w' w.heap.size (fun _ => True) (.slice Ao5 y154.length co5) y154) ∧ Aside0 (Below w.heap.size w w'))
 case atStart => exact ⟨(0), (by first | rfl | (simp [*]; done)), H', ⟨Nat.le_refl _⟩, ⟨rE HO156.out⟩, ⟨bE HB.out⟩⟩
 case round =>
  clear H'; (try clear p2); (try clear c3); obtain ⟨x11_1, rfl, HA, HK1, HO_9, HB⟩ := hrel; cases gk with
  | zero => exact absurd HA.out (by simp [spec_l02SignAt.l0])
  | succ k1 =>
   have H := HA.out; clear HA; simp only [spec_l02SignAt.l0] at H
   by_cases c6 : x11_1 < (y154.length : Int)
   ·rw [if_pos c6] at H; have c6b0 : decide (x11_1 < (y154.length : Int)) = true := decide_eq_true c6; clear c6
    by_cases c7 : 0 ≤ x11_1
    ·rw [if_pos c7] at H; have c7b0 : decide (0 ≤ x11_1) = true := decide_eq_true c7; clear c7
     by_cases c8 : x11_1 < (y154.length : Int)
     ·rw [if_pos c8] at H; have c8b0 : decide (x11_1 < (y154.length : Int)) = true := decide_eq_true c8; clear c8
      by_cases c9 : (wrap64 (a1 + ((rdOf ByteArray.empty y154 x11_1).size : Int))) ≤ (a0.size : Int)
      ·rw [if_pos c9] at H; have c9b0 : decide ((wrap64 (a1 + ((rdOf ByteArray.empty y154 x11_1).size : Int))) ≤ (a0.size : Int)) = true := decide_eq_true c9; clear c9
       by_cases c10 : 0 ≤ a1
       ·rw [if_pos c10] at H; have c10b0 := eq_true c10; have c10b1 : decide (0 ≤ a1) = true := decide_eq_true c10; clear c10
        by_cases c11 : a1 ≤ (wrap64 (a1 + ((rdOf ByteArray.empty y154 x11_1).size : Int)))
        ·rw [if_pos c11] at H; have c11b0 := eq_true c11; have c11b1 : decide (a1 ≤ (wrap64 (a1 + ((rdOf ByteArray.empty y154 x11_1).size : Int)))) = true := decide_eq_true c11; have c12b0 := eq_true (of_decide_eq_true (by assumption) : (wrap64 (a1 + ((rdOf ByteArray.empty y154 x11_1).size : Int))) ≤ (a0.size : Int))
         by_cases c13 : (a0.extract (a1 : Int).toNat ((wrap64 (a1 + ((rdOf ByteArray.empty y154 x11_1).size : Int))) : Int).toNat).toList = (rdOf ByteArray.empty y154 x11_1).toList
         ·rw [if_pos c13] at H; have c13b0 : ((a0.extract (a1 : Int).toNat ((wrap64 (a1 + ((rdOf ByteArray.empty y154 x11_1).size : Int))) : Int).toNat).toList == (rdOf ByteArray.empty y154 x11_1).toList) = true := beq_iff_eq.mpr c13; have c13b1 : ((a0.extract (a1 : Int).toNat ((wrap64 (a1 + ((rdOf ByteArray.empty y154 x11_1).size : Int))) : Int).toNat).toList != (rdOf ByteArray.empty y154 x11_1).toList) = false := bne_eq_false_iff_eq.mpr c13; clear c13; obtain rfl := Option.some.inj H; have p157 : 0 ≤ (x11_1 : Int) := of_decide_eq_true (by assumption); have q157 : x11_1 < (y154.length : Int) := of_decide_eq_true (by assumption); obtain ⟨ad157, e157, hx157_0⟩ := Kd.at_string (Kd.R_reads' HO_9.out).2.2 x11_1 p157 q157; cases e157; replace p157 := eq_true p157; replace q157 := eq_true q157; go_wp2
          go_ret
          exact ⟨by first | rfl | (simp [*] <;> rfl), bE HB.out⟩
         ·rw [if_neg c13] at H; have c13b0 : ((a0.extract (a1 : Int).toNat ((wrap64 (a1 + ((rdOf ByteArray.empty y154 x11_1).size : Int))) : Int).toNat).toList == (rdOf ByteArray.empty y154 x11_1).toList) = false := beq_eq_false_iff_ne.mpr c13; have c13b1 : ((a0.extract (a1 : Int).toNat ((wrap64 (a1 + ((rdOf ByteArray.empty y154 x11_1).size : Int))) : Int).toNat).toList != (rdOf ByteArray.empty y154 x11_1).toList) = true := bne_iff_ne.mpr c13; have H' := sd H
          clear H; have p157 : 0 ≤ (x11_1 : Int) := of_decide_eq_true (by assumption); have q157 : x11_1 < (y154.length : Int) := of_decide_eq_true (by assumption); obtain ⟨ad157, e157, hx157_0⟩ := Kd.at_string (Kd.R_reads' HO_9.out).2.2 x11_1 p157 q157; cases e157; replace p157 := eq_true p157; replace q157 := eq_true q157; go_wp2
          go_roundg k1
          case measure => have := HK1.out; omega
          case rel => exact ⟨(wrap64 (x11_1 + 1)), (by first | rfl | (simp [*]; done)), H', ⟨by have := HK1.out; omega⟩, ⟨rE HO_9.out⟩, ⟨bE HB.out⟩⟩
        ·rw [if_neg c11] at H; exact absurd H (by simp)
       ·rw [if_neg c10] at H; exact absurd H (by simp)
      ·rw [if_neg c9] at H; have c9b0 : decide ((wrap64 (a1 + ((rdOf ByteArray.empty y154 x11_1).size : Int))) ≤ (a0.size : Int)) = false := decide_eq_false c9; clear c9; have H' := sd H
       clear H; have p157 : 0 ≤ (x11_1 : Int) := of_decide_eq_true (by assumption); have q157 : x11_1 < (y154.length : Int) := of_decide_eq_true (by assumption); obtain ⟨ad157, e157, hx157_0⟩ := Kd.at_string (Kd.R_reads' HO_9.out).2.2 x11_1 p157 q157; cases e157; replace p157 := eq_true p157; replace q157 := eq_true q157; go_wp2
       go_roundg k1
       case measure => have := HK1.out; omega
       case rel => exact ⟨(wrap64 (x11_1 + 1)), (by first | rfl | (simp [*]; done)), H', ⟨by have := HK1.out; omega⟩, ⟨rE HO_9.out⟩, ⟨bE HB.out⟩⟩
     ·rw [if_neg c8] at H; exact absurd H (by simp)
    ·rw [if_neg c7] at H; exact absurd H (by simp)
   ·rw [if_neg c6] at H; have c6b0 : decide (x11_1 < (y154.length : Int)) = false := decide_eq_false c6; clear c6; obtain rfl := Option.some.inj H; go_wp2
    go_ret
    exact ⟨by first | rfl | (simp [*] <;> rfl), bE HB.out⟩

end Go.Proofs.YtackifpnpkbddaaGreatDoor.QFnLexed
