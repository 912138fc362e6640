-- Laid by a program of the session's own (wip/tools/mp.py); not the kit's print.
import Derived.Test.YtackifpnpkbddaaGreatDoorQFnLexedx0
import Derived.Test.YtackifpnpkbddaaGreatDoorQFnLexedx4
namespace Go.Proofs.YtackifpnpkbddaaGreatDoor.QFnLexed
open Go.RowKit Go.Proofs.YtackifpnpkbddaaGreatDoorW.PrintWords Go.Proofs.YtackifpnpkbddaaGreatDoorW.PrintLast Go.Proofs.YtackifpnpkbddaaGreatDoorW.PrintMore Go.Proofs.YtackifpnpkbddaaGreatDoorScan
attribute [local go_sem] max2_int min2_int max_two min_two max_three min_three max_four min_four   -- for this text's walks alone
set_option linter.unusedVariables false
set_option linter.unusedSimpArgs false

/-! ### spec_l02Mark: function 31 -/
def spec_l02Mark.l0 : Nat → ByteArray → Int → List Int → Int → Option (ByteArray)
 | 0, _, _, _, _ => none
 | k + 1, x0, x1, x5, x6 => if x6 < (x0.size : Int) then (if 0 ≤ x6 then (if (bt x0 x6) = x1 then (if x5.length < 140737488355328 then ((some (x5 ++ [x1] : List Int)).bind fun y167 => (if y167.length < 140737488355328 then (spec_l02Mark.l0 k x0 x1 (y167 ++ [bt x0 x6]) (wrap64 (x6 + 1))) else (none))) else (none)) else (if x5.length < 140737488355328 then (spec_l02Mark.l0 k x0 x1 (x5 ++ [bt x0 x6]) (wrap64 (x6 + 1))) else (none))) else (none)) else (if x5.length < 140737488355328 then (some (strOfNums (x5 ++ [x1]))) else (none))
def spec_l02Mark.f (k : Nat) (a0 : ByteArray) (a1 : Int) : Option (ByteArray) := spec_l02Mark.l0 k a0 a1 (([a1] : List Int)) 0
theorem spec_l02Mark.mono_l : ∀ k, (∀ y0 y1 y2 y3, LeO (spec_l02Mark.l0 k y0 y1 y2 y3) (spec_l02Mark.l0 (k + 1) y0 y1 y2 y3))
 | 0 => fun _ _ _ _ r h => by simp [spec_l02Mark.l0] at h
 | k + 1 => by
  have ih0 := spec_l02Mark.mono_l k
  ·intro y0 y1 y2 y3
   unfold spec_l02Mark.l0
   repeat' first
   | (with_reducible exact ih0 _ _ _ _)
   | (with_reducible exact LeO.refl _)
   | (with_reducible exact LeO.none _)
   | (with_reducible refine LeO.ite ?_ ?_)
   | (with_reducible refine LeO.bind ?_ (fun _ => ?_))
   | exact ih0 _ _ _ _
   | exact LeO.none _
   | refine LeO.ite ?_ ?_
   | refine LeO.bind ?_ (fun _ => ?_)
theorem spec_l02Mark.mono : ∀ a0 a1 k, LeO (spec_l02Mark.f k a0 a1) (spec_l02Mark.f (k + 1) a0 a1) := by
 intro a0 a1 k
 have ih0 := spec_l02Mark.mono_l k
 unfold spec_l02Mark.f
 repeat' first
   | (with_reducible exact ih0 _ _ _ _)
   | (with_reducible exact LeO.refl _)
   | (with_reducible exact LeO.none _)
   | (with_reducible refine LeO.ite ?_ ?_)
   | (with_reducible refine LeO.bind ?_ (fun _ => ?_))
   | exact ih0 _ _ _ _
   | exact LeO.none _
   | refine LeO.ite ?_ ?_
   | refine LeO.bind ?_ (fun _ => ?_)
set_option maxHeartbeats 8000000 in
set_option maxRecDepth 100000 in
theorem spec_l02Mark.calls (k : Nat) (a0 : ByteArray) (a1 : Int) (r : ByteArray) (w : World) (h : spec_l02Mark.f k a0 a1 = some r) :
  Calls Tryz.prog 31 #[.string a0, .int .u8 a1] w fun e w' => e = .returned (.string r) ∧ Below w.heap.size w w' := by
 have HB := sd (Below.refl w.heap.size w); have H : (spec_l02Mark.l0 k a0 a1 (([a1] : List Int)) 0) = some r := h; clear h; obtain ⟨y164, hy164⟩ : ∃ y_ : List Int, y_ = (([a1] : List Int)) := ⟨_, rfl⟩; replace H : (spec_l02Mark.l0 k a0 a1 y164 0) = some r := by first | (rw [hy164]; with_reducible exact H) | (have H2_ := (Option.bind_some _ _).symm.trans H; rw [hy164]; with_reducible exact H2_) | (have H2_ := (Option.bind_some _ _).symm.trans H; with_reducible exact H2_) | with_reducible exact H | (rw [hy164]; exact H) | exact H
 have Ny164 := sd hy164; clear hy164; have H' := sd H
 clear H
 go_enter Tryz.func31, Tryz.ntmps31
 go_wp2_with (first | ((with_reducible refine gate_dst (N := 8) rfl ?_); refine Kd.R_lit (Kd.int .u8) _ 5 ?hg (N := 8) ?hd (xs := ([a1] : List Int)) (inner := [.int .u8 a1]) (ok := fun _ => True) (okp := fun _ => True) ?hr ?hp (fun _ hk => hk) trivial (Below.refl _ _) (Nat.le_refl _) (by simp) ?_; (case hd => rfl); (case hg => rfl); (case hr => go_simp <;> rfl); (case hp => exact (Reps.one (show Kd.M (Kd.int .u8) _ _ _ a1 [.int .u8 a1] from rfl) (Reps.none _ _))); intro v165 w3 ho4 hb hg_ hnew_; clear hg_ hnew_; (first | rw [← Ny164.out] at ho4 | (simp only [Int.reduceToNat] at ho4; rw [← Ny164.out] at ho4)); have HO166 := sd (Kd.R_lower ho4 (bZ (bE HB.out))); replace HB := sd (bT (bE HB.out) hb); clear hb ho4))
 go_loopg [5, 6] k (fun kq v5 v6 w' => ∃ (x5_1 : List Int) (x6_1 : Int), v6 = .int .i64 x6_1 ∧ Aside0 (spec_l02Mark.l0 kq a0 a1 x5_1 x6_1 = some r) ∧ Aside0 (kq ≤ k) ∧ Aside0 (Kd.R (Kd.int .u8) 5 w' w.heap.size (fun _ => True) v5 x5_1) ∧ Aside0 (Below w.heap.size w w'))
 case atStart => exact ⟨(y164), (0), (by first | rfl | (simp [*]; done)), H', ⟨Nat.le_refl _⟩, ⟨rE HO166.out⟩, ⟨bE HB.out⟩⟩
 case round =>
  clear H'; (try clear p2); (try clear c3); obtain ⟨x5_1, x6_1, rfl, HA, HK1, HO_5, HB⟩ := hrel; cases gk with
  | zero => exact absurd HA.out (by simp [spec_l02Mark.l0])
  | succ k1 =>
   have H := HA.out; clear HA; simp only [spec_l02Mark.l0] at H
   by_cases c5 : x6_1 < (a0.size : Int)
   ·rw [if_pos c5] at H; have c5b0 : decide (x6_1 < (a0.size : Int)) = true := decide_eq_true c5; clear c5
    by_cases c6 : 0 ≤ x6_1
    ·rw [if_pos c6] at H; have c6b0 : decide (0 ≤ x6_1) = true := decide_eq_true c6; clear c6
     by_cases c8 : (bt a0 x6_1) = a1
     ·rw [if_pos c8] at H; have c8b0 : ((bt a0 x6_1) == a1) = true := beq_iff_eq.mpr c8; have c8b1 : ((bt a0 x6_1) != a1) = false := bne_eq_false_iff_eq.mpr c8; clear c8
      by_cases c9 : x5_1.length < 140737488355328
      ·rw [if_pos c9] at H; have LMc9 := sd c9; clear c9; obtain ⟨y167, hy167⟩ : ∃ y_ : List Int, y_ = (x5_1 ++ [a1]) := ⟨_, rfl⟩; replace H : (if y167.length < 140737488355328 then (spec_l02Mark.l0 k1 a0 a1 (y167 ++ [bt a0 x6_1]) (wrap64 (x6_1 + 1))) else (none)) = some r := by first | (rw [hy167]; with_reducible exact H) | (have H2_ := (Option.bind_some _ _).symm.trans H; rw [hy167]; with_reducible exact H2_) | (have H2_ := (Option.bind_some _ _).symm.trans H; with_reducible exact H2_) | with_reducible exact H | (rw [hy167]; exact H) | exact H
       have Ny167 := sd hy167; clear hy167
       by_cases c11 : y167.length < 140737488355328
       ·rw [if_pos c11] at H; have LMc11 := sd c11; clear c11; obtain ⟨y170, hy170⟩ : ∃ y_ : List Int, y_ = (y167 ++ [bt a0 x6_1]) := ⟨_, rfl⟩; replace H : (spec_l02Mark.l0 k1 a0 a1 y170 (wrap64 (x6_1 + 1))) = some r := by first | (rw [hy170]; with_reducible exact H) | (have H2_ := (Option.bind_some _ _).symm.trans H; rw [hy170]; with_reducible exact H2_) | (have H2_ := (Option.bind_some _ _).symm.trans H; with_reducible exact H2_) | with_reducible exact H | (rw [hy170]; exact H) | exact H
        have Ny170 := sd hy170; clear hy170; have H' := sd H
        clear H; have p7 : 0 ≤ (x6_1 : Int) := of_decide_eq_true (by assumption); have q7 : x6_1 < (a0.size : Int) := of_decide_eq_true (by assumption); have hx7 := bt_at a0 x6_1; replace p7 := eq_true p7; replace q7 := eq_true q7
        go_wp2_with (first | ((with_reducible refine gate_builtin (b := .append) (xs := #[.tmp 20, .tmp 22]) rfl ?_); at_builtin; refine Kd.R_append (Kd.int .u8) (w0 := w) w.heap.size rfl (.tmp 20) (.tmp 22) 30 5 (.int .u8 0) 1 rfl Tryz.underlying30 info5 rfl (by decide) (by omega) u5 x5_1 a1 [.int .u8 a1] (fun _ => True) (fun _ => False) rfl rfl ?aP (fun _ hk => hk.elim) ?aF ?aO ?aB ?aS ?aL ?_; (case aP => exact rfl); (case aB => exact (bE HB.out)); (case aF => exact (fun _ _ => trivial)); (case aO => exact (rE HO_5.out)); (case aS => exact (bZ (bE HB.out))); (case aL => have := LMc9.out; omega); intro v168 w12 ho hb hg hat; rw [← Ny167.out] at ho; replace HB := sd (hb); have HO169 := sd (ho); clear HO_5; clear ho hb hg hat; have p10 : 0 ≤ (x6_1 : Int) := of_decide_eq_true (by assumption); have q10 : x6_1 < (a0.size : Int) := of_decide_eq_true (by assumption); have hx10 := bt_at a0 x6_1; replace p10 := eq_true p10; replace q10 := eq_true q10) | ((with_reducible refine gate_builtin (b := .append) (xs := #[.tmp 24, .tmp 28]) rfl ?_); at_builtin; refine Kd.R_append (Kd.int .u8) (w0 := w) w.heap.size rfl (.tmp 24) (.tmp 28) 30 5 (.int .u8 0) 1 rfl Tryz.underlying30 info5 rfl (by decide) (by omega) v168 y167 (bt a0 x6_1) [.int .u8 (bt a0 x6_1)] (fun _ => True) (fun _ => False) rfl rfl ?aP (fun _ hk => hk.elim) ?aF ?aO ?aB ?aS ?aL ?_; (case aP => exact rfl); (case aB => exact (bE HB.out)); (case aF => exact (fun _ _ => trivial)); (case aO => exact (rE HO169.out)); (case aS => exact (bZ (bE HB.out))); (case aL => have := LMc11.out; omega); intro v171 w13 ho hb hg hat; rw [← Ny170.out] at ho; replace HB := sd (hb); have HO172 := sd (ho); clear HO169; clear ho hb hg hat))
        go_roundg k1
        case measure => have := HK1.out; omega
        case rel => exact ⟨(y170), (wrap64 (x6_1 + 1)), (by first | rfl | (simp [*]; done)), H', ⟨by have := HK1.out; omega⟩, ⟨rE HO172.out⟩, ⟨bE HB.out⟩⟩
       ·rw [if_neg c11] at H; exact absurd H (by simp)
      ·rw [if_neg c9] at H; exact absurd H (by simp)
     ·rw [if_neg c8] at H; have c8b0 : ((bt a0 x6_1) == a1) = false := beq_eq_false_iff_ne.mpr c8; have c8b1 : ((bt a0 x6_1) != a1) = true := bne_iff_ne.mpr c8
      by_cases c15 : x5_1.length < 140737488355328
      ·rw [if_pos c15] at H; have LMc15 := sd c15; clear c15; obtain ⟨y173, hy173⟩ : ∃ y_ : List Int, y_ = (x5_1 ++ [bt a0 x6_1]) := ⟨_, rfl⟩; replace H : (spec_l02Mark.l0 k1 a0 a1 y173 (wrap64 (x6_1 + 1))) = some r := by first | (rw [hy173]; with_reducible exact H) | (have H2_ := (Option.bind_some _ _).symm.trans H; rw [hy173]; with_reducible exact H2_) | (have H2_ := (Option.bind_some _ _).symm.trans H; with_reducible exact H2_) | with_reducible exact H | (rw [hy173]; exact H) | exact H
       have Ny173 := sd hy173; clear hy173; have H' := sd H
       clear H; have p7 : 0 ≤ (x6_1 : Int) := of_decide_eq_true (by assumption); have q7 : x6_1 < (a0.size : Int) := of_decide_eq_true (by assumption); have hx7 := bt_at a0 x6_1; replace p7 := eq_true p7; replace q7 := eq_true q7; have p14 : 0 ≤ (x6_1 : Int) := of_decide_eq_true (by assumption); have q14 : x6_1 < (a0.size : Int) := of_decide_eq_true (by assumption); have hx14 := bt_at a0 x6_1; replace p14 := eq_true p14; replace q14 := eq_true q14
       go_wp2_with (first | ((with_reducible refine gate_builtin (b := .append) (xs := #[.tmp 24, .tmp 28]) rfl ?_); at_builtin; refine Kd.R_append (Kd.int .u8) (w0 := w) w.heap.size rfl (.tmp 24) (.tmp 28) 30 5 (.int .u8 0) 1 rfl Tryz.underlying30 info5 rfl (by decide) (by omega) u5 x5_1 (bt a0 x6_1) [.int .u8 (bt a0 x6_1)] (fun _ => True) (fun _ => False) rfl rfl ?aP (fun _ hk => hk.elim) ?aF ?aO ?aB ?aS ?aL ?_; (case aP => exact rfl); (case aB => exact (bE HB.out)); (case aF => exact (fun _ _ => trivial)); (case aO => exact (rE HO_5.out)); (case aS => exact (bZ (bE HB.out))); (case aL => have := LMc15.out; omega); intro v174 w16 ho hb hg hat; rw [← Ny173.out] at ho; replace HB := sd (hb); have HO175 := sd (ho); clear HO_5; clear ho hb hg hat))
       go_roundg k1
       case measure => have := HK1.out; omega
       case rel => exact ⟨(y173), (wrap64 (x6_1 + 1)), (by first | rfl | (simp [*]; done)), H', ⟨by have := HK1.out; omega⟩, ⟨rE HO175.out⟩, ⟨bE HB.out⟩⟩
      ·rw [if_neg c15] at H; exact absurd H (by simp)
    ·rw [if_neg c6] at H; exact absurd H (by simp)
   ·rw [if_neg c5] at H; have c5b0 : decide (x6_1 < (a0.size : Int)) = false := decide_eq_false c5; clear c5
    by_cases c17 : x5_1.length < 140737488355328
    ·rw [if_pos c17] at H; have LMc17 := sd c17; clear c17; obtain ⟨y176, hy176⟩ : ∃ y_ : List Int, y_ = (x5_1 ++ [a1]) := ⟨_, rfl⟩; replace H : (some (strOfNums y176)) = some r := by first | (rw [hy176]; with_reducible exact H) | (have H2_ := (Option.bind_some _ _).symm.trans H; rw [hy176]; with_reducible exact H2_) | (have H2_ := (Option.bind_some _ _).symm.trans H; with_reducible exact H2_) | with_reducible exact H | (rw [hy176]; exact H) | exact H
     have Ny176 := sd hy176; clear hy176; obtain rfl := Option.some.inj H
     go_wp2_with (first | ((with_reducible refine gate_builtin (b := .append) (xs := #[.tmp 30, .tmp 32]) rfl ?_); at_builtin; refine Kd.R_append (Kd.int .u8) (w0 := w) w.heap.size rfl (.tmp 30) (.tmp 32) 30 5 (.int .u8 0) 1 rfl Tryz.underlying30 info5 rfl (by decide) (by omega) u5 x5_1 a1 [.int .u8 a1] (fun _ => True) (fun _ => False) rfl rfl ?aP (fun _ hk => hk.elim) ?aF ?aO ?aB ?aS ?aL ?_; (case aP => exact rfl); (case aB => exact (bE HB.out)); (case aF => exact (fun _ _ => trivial)); (case aO => exact (rE HO_5.out)); (case aS => exact (bZ (bE HB.out))); (case aL => have := LMc17.out; omega); intro v177 w18 ho hb hg hat; rw [← Ny176.out] at ho; replace HB := sd (hb); have HO178 := sd (ho); clear HO_5; clear ho hb hg hat; have hcv19 := own_string (P := Tryz.prog) Tryz.underlying30 Tryz.underlying5 Tryz.underlying9 (Kd.own_of_R HO178.out)))
     go_ret
     exact ⟨by first | rfl | (simp [*] <;> rfl), bE HB.out⟩
    ·rw [if_neg c17] at H; exact absurd H (by simp)

/-! ### spec_l02TokenText: function 14 -/
def spec_l02TokenText.f (k : Nat) (a0_0 : Int) (a0_1 : ByteArray) (a0_2 : Int) : Option (ByteArray) := if a0_0 = 2 then ((spec_l02Mark.f k a0_1 34).bind fun t180 => (some t180)) else (if a0_0 = 5 then ((spec_l02Mark.f k a0_1 39).bind fun t181 => (some t181)) else (some a0_1))
theorem spec_l02TokenText.mono : ∀ a0 a1 a2 k, LeO (spec_l02TokenText.f k a0 a1 a2) (spec_l02TokenText.f (k + 1) a0 a1 a2) := by
 intro a0 a1 a2 k
 unfold spec_l02TokenText.f
 repeat' first
   | (with_reducible exact spec_l02Mark.mono _ _ _)
   | (with_reducible exact LeO.refl _)
   | (with_reducible exact LeO.none _)
   | (with_reducible refine LeO.ite ?_ ?_)
   | (with_reducible refine LeO.bind ?_ (fun _ => ?_))
   | exact spec_l02Mark.mono _ _ _
   | exact LeO.none _
   | refine LeO.ite ?_ ?_
   | refine LeO.bind ?_ (fun _ => ?_)
set_option maxHeartbeats 8000000 in
set_option maxRecDepth 100000 in
theorem spec_l02TokenText.calls (k : Nat) (a0_0 : Int) (a0_1 : ByteArray) (a0_2 : Int) (r : ByteArray) (w : World) (h : spec_l02TokenText.f k a0_0 a0_1 a0_2 = some r) :
  Calls Tryz.prog 14 #[.agg #[.int .i64 a0_0, .string a0_1, .int .i64 a0_2]] w fun e w' => e = .returned (.string r) ∧ Below w.heap.size w w' := by
 have hu35 := Tryz.underlying35; have HB := sd (Below.refl w.heap.size w); have H : (if a0_0 = 2 then ((spec_l02Mark.f k a0_1 34).bind fun t180 => (some t180)) else (if a0_0 = 5 then ((spec_l02Mark.f k a0_1 39).bind fun t181 => (some t181)) else (some a0_1))) = some r := h; clear h
 by_cases c2 : a0_0 = 2
 ·rw [if_pos c2] at H; have c2b0 : (a0_0 == 2) = true := beq_iff_eq.mpr c2; have c2b1 : (a0_0 != 2) = false := bne_eq_false_iff_eq.mpr c2; clear c2; replace H := Option.bind_eq_some_iff.mp H; obtain ⟨t180, A30, H⟩ := H; replace H : (some t180) = some r := H; have A3 := sd A30; clear A30; obtain rfl := Option.some.inj H
  go_enter Tryz.func14, Tryz.ntmps14
  go_wp2_with (first | ((with_reducible refine gate_dst (N := 1) rfl ?_); refine box_event ?hg (N := 1) ?hd (cs := #[.int .i64 a0_0, .string a0_1, .int .i64 a0_2]) (t := 35) ?hr ?_; (case hd => rfl); (case hg => rfl); (case hr => go_simp <;> rfl); intro gb179 hg w4 hbox hb; have BK179 := sd (hbox); have GW179 := sd ((by rw [hg]; exact (bZ (bE HB.out)) : w.heap.size ≤ gb179)); have GE179 := GW179; replace HB := sd (bT (bE HB.out) hb); clear hb hbox hg; obtain ⟨hcz5_0, hcz5_1, hcz5_2, hfz5_0, hfz5_1, hfz5_2⟩ := row3 BK179.out) | ((with_reducible refine gate_callee (f := 31) rfl ?_); refine goesL_ (some 9) rfl rfl Tryz.func31 (by kernel_rfl) rfl #[.string a0_1, .int .u8 34] rfl (by (try simp only [List.map_toArray, List.map_cons, List.map_nil]); first | done | rfl) ?_; (with_reducible refine (spec_l02Mark.calls k a0_1 34 t180 _ A3.out).mono ?_); rintro e w6 ⟨rfl, hb⟩; refine ⟨_, rfl, ?_⟩; replace BK179 := sd (blk_below (g := gb179) (o := .cells #[.int .i64 a0_0, .string a0_1, .int .i64 a0_2] 35 (0, 0)) (kE BK179.out) hb); replace HB := sd (bT (bE HB.out) hb); (try clear hb); (try clear hb2); (try clear hk); (try clear hi)))
  go_ret
  exact ⟨by first | rfl | (simp [*] <;> rfl), bE HB.out⟩
 ·rw [if_neg c2] at H; have c2b0 : (a0_0 == 2) = false := beq_eq_false_iff_ne.mpr c2; have c2b1 : (a0_0 != 2) = true := bne_iff_ne.mpr c2
  by_cases c7 : a0_0 = 5
  ·rw [if_pos c7] at H; have c7b0 : (a0_0 == 5) = true := beq_iff_eq.mpr c7; have c7b1 : (a0_0 != 5) = false := bne_eq_false_iff_eq.mpr c7; clear c7; replace H := Option.bind_eq_some_iff.mp H; obtain ⟨t181, A80, H⟩ := H; replace H : (some t181) = some r := H; have A8 := sd A80; clear A80; obtain rfl := Option.some.inj H
   go_enter Tryz.func14, Tryz.ntmps14
   go_wp2_with (first | ((with_reducible refine gate_dst (N := 1) rfl ?_); refine box_event ?hg (N := 1) ?hd (cs := #[.int .i64 a0_0, .string a0_1, .int .i64 a0_2]) (t := 35) ?hr ?_; (case hd => rfl); (case hg => rfl); (case hr => go_simp <;> rfl); intro gb179 hg w9 hbox hb; have BK179 := sd (hbox); have GW179 := sd ((by rw [hg]; exact (bZ (bE HB.out)) : w.heap.size ≤ gb179)); have GE179 := GW179; replace HB := sd (bT (bE HB.out) hb); clear hb hbox hg; obtain ⟨hcz10_0, hcz10_1, hcz10_2, hfz10_0, hfz10_1, hfz10_2⟩ := row3 BK179.out) | ((with_reducible refine gate_callee (f := 31) rfl ?_); refine goesL_ (some 14) rfl rfl Tryz.func31 (by kernel_rfl) rfl #[.string a0_1, .int .u8 39] rfl (by (try simp only [List.map_toArray, List.map_cons, List.map_nil]); first | done | rfl) ?_; (with_reducible refine (spec_l02Mark.calls k a0_1 39 t181 _ A8.out).mono ?_); rintro e w11 ⟨rfl, hb⟩; refine ⟨_, rfl, ?_⟩; replace BK179 := sd (blk_below (g := gb179) (o := .cells #[.int .i64 a0_0, .string a0_1, .int .i64 a0_2] 35 (0, 0)) (kE BK179.out) hb); replace HB := sd (bT (bE HB.out) hb); (try clear hb); (try clear hb2); (try clear hk); (try clear hi)))
   go_ret
   exact ⟨by first | rfl | (simp [*] <;> rfl), bE HB.out⟩
  ·rw [if_neg c7] at H; have c7b0 : (a0_0 == 5) = false := beq_eq_false_iff_ne.mpr c7; have c7b1 : (a0_0 != 5) = true := bne_iff_ne.mpr c7; obtain rfl := Option.some.inj H
   go_enter Tryz.func14, Tryz.ntmps14
   go_wp2_with (first | ((with_reducible refine gate_dst (N := 1) rfl ?_); refine box_event ?hg (N := 1) ?hd (cs := #[.int .i64 a0_0, .string a0_1, .int .i64 a0_2]) (t := 35) ?hr ?_; (case hd => rfl); (case hg => rfl); (case hr => go_simp <;> rfl); intro gb179 hg w12 hbox hb; have BK179 := sd (hbox); have GW179 := sd ((by rw [hg]; exact (bZ (bE HB.out)) : w.heap.size ≤ gb179)); have GE179 := GW179; replace HB := sd (bT (bE HB.out) hb); clear hb hbox hg; obtain ⟨hcz13_0, hcz13_1, hcz13_2, hfz13_0, hfz13_1, hfz13_2⟩ := row3 BK179.out))
   go_ret
   exact ⟨by first | rfl | (simp [*] <;> rfl), bE HB.out⟩

/-! ### spec_Unlex: function 6 -/
mutual
def spec_Unlex.l0 : Nat → List (S35) → List (S35) → Int → Int → Option (ByteArray × Int)
 | 0, _, _, _, _ => none
 | k + 1, x0, x12, x13, x14 => if x14 < x13 then (if 0 ≤ x14 then (if x14 < (x12.length : Int) then ((spec_l02TokenOK.f k ((rd_T35 x12 x14).f0) ((rd_T35 x12 x14).f1) ((rd_T35 x12 x14).f2)).bind fun t184 => (if t184 = true then (spec_Unlex.l0 k x0 x12 x13 (wrap64 (x14 + 1))) else (some ((⟨#[]⟩ : ByteArray), 1)))) else (none)) else (none)) else (spec_Unlex.l1 k (([] : List Int)) x0 (x0.length : Int) 0)
def spec_Unlex.l1 : Nat → List Int → List (S35) → Int → Int → Option (ByteArray × Int)
 | 0, _, _, _, _ => none
 | k + 1, x6, x23, x24, x25 => if x25 < x24 then (if 0 ≤ x25 then (if x25 < (x23.length : Int) then (if x25 > 0 then (if x6.length < 140737488355328 then ((some (x6 ++ [32] : List Int)).bind fun y190 => ((spec_l02TokenText.f k ((rd_T35 x23 x25).f0) ((rd_T35 x23 x25).f1) ((rd_T35 x23 x25).f2)).bind fun t193 => (if y190.length + t193.size < 140737488355328 then (spec_Unlex.l1 k (y190 ++ bytesOf t193) x23 x24 (wrap64 (x25 + 1))) else (none)))) else (none)) else ((spec_l02TokenText.f k ((rd_T35 x23 x25).f0) ((rd_T35 x23 x25).f1) ((rd_T35 x23 x25).f2)).bind fun t197 => (if x6.length + t197.size < 140737488355328 then (spec_Unlex.l1 k (x6 ++ bytesOf t197) x23 x24 (wrap64 (x25 + 1))) else (none)))) else (none)) else (none)) else (if (x6.length : Int) > 8000 then (some ((⟨#[]⟩ : ByteArray), 5)) else (some (strOfNums x6, 0)))
end
def spec_Unlex.f (k : Nat) (l0 : List (S35)) : Option (ByteArray × Int) := if (l0.length : Int) > 2000 then (some ((⟨#[]⟩ : ByteArray), 1)) else (spec_Unlex.l0 k l0 l0 (l0.length : Int) 0)
theorem spec_Unlex.mono_l : ∀ k, (∀ y0 y1 y2 y3, LeO (spec_Unlex.l0 k y0 y1 y2 y3) (spec_Unlex.l0 (k + 1) y0 y1 y2 y3)) ∧ (∀ y0 y1 y2 y3, LeO (spec_Unlex.l1 k y0 y1 y2 y3) (spec_Unlex.l1 (k + 1) y0 y1 y2 y3))
 | 0 => ⟨fun _ _ _ _ r h => by simp [spec_Unlex.l0] at h, fun _ _ _ _ r h => by simp [spec_Unlex.l1] at h⟩
 | k + 1 => by
  obtain ⟨ih0, ih1⟩ := spec_Unlex.mono_l k
  refine ⟨?_, ?_⟩
  ·intro y0 y1 y2 y3
   unfold spec_Unlex.l0
   repeat' first
   | (with_reducible exact ih0 _ _ _ _)
   | (with_reducible exact ih1 _ _ _ _)
   | (with_reducible exact spec_l02TokenOK.mono _ _ _ _)
   | (with_reducible exact spec_l02TokenText.mono _ _ _ _)
   | (with_reducible exact LeO.refl _)
   | (with_reducible exact LeO.none _)
   | (with_reducible refine LeO.ite ?_ ?_)
   | (with_reducible refine LeO.bind ?_ (fun _ => ?_))
   | exact ih0 _ _ _ _
   | exact ih1 _ _ _ _
   | exact spec_l02TokenOK.mono _ _ _ _
   | exact spec_l02TokenText.mono _ _ _ _
   | exact LeO.none _
   | refine LeO.ite ?_ ?_
   | refine LeO.bind ?_ (fun _ => ?_)
  ·intro y0 y1 y2 y3
   unfold spec_Unlex.l1
   repeat' first
   | (with_reducible exact ih0 _ _ _ _)
   | (with_reducible exact ih1 _ _ _ _)
   | (with_reducible exact spec_l02TokenOK.mono _ _ _ _)
   | (with_reducible exact spec_l02TokenText.mono _ _ _ _)
   | (with_reducible exact LeO.refl _)
   | (with_reducible exact LeO.none _)
   | (with_reducible refine LeO.ite ?_ ?_)
   | (with_reducible refine LeO.bind ?_ (fun _ => ?_))
   | exact ih0 _ _ _ _
   | exact ih1 _ _ _ _
   | exact spec_l02TokenOK.mono _ _ _ _
   | exact spec_l02TokenText.mono _ _ _ _
   | exact LeO.none _
   | refine LeO.ite ?_ ?_
   | refine LeO.bind ?_ (fun _ => ?_)
theorem spec_Unlex.mono : ∀ a0 k, LeO (spec_Unlex.f k a0) (spec_Unlex.f (k + 1) a0) := by
 intro a0 k
 obtain ⟨ih0, ih1⟩ := spec_Unlex.mono_l k
 unfold spec_Unlex.f
 repeat' first
   | (with_reducible exact ih0 _ _ _ _)
   | (with_reducible exact ih1 _ _ _ _)
   | (with_reducible exact spec_l02TokenOK.mono _ _ _ _)
   | (with_reducible exact spec_l02TokenText.mono _ _ _ _)
   | (with_reducible exact LeO.refl _)
   | (with_reducible exact LeO.none _)
   | (with_reducible refine LeO.ite ?_ ?_)
   | (with_reducible refine LeO.bind ?_ (fun _ => ?_))
   | exact ih0 _ _ _ _
   | exact ih1 _ _ _ _
   | exact spec_l02TokenOK.mono _ _ _ _
   | exact spec_l02TokenText.mono _ _ _ _
   | exact LeO.none _
   | refine LeO.ite ?_ ?_
   | refine LeO.bind ?_ (fun _ => ?_)
set_option maxHeartbeats 8000000 in
set_option maxRecDepth 100000 in
theorem spec_Unlex.calls (k : Nat) (A0 : Option Addr) (c0 : Nat) (l0 : List (S35)) (r1 : ByteArray) (r2 : Int) (w : World) (hr0 : Kd.C k35 w A0 l0.length l0) (hc0 : l0.length ≤ c0) (h : spec_Unlex.f k l0 = some (r1, r2)) :
  Calls Tryz.prog 6 #[.slice A0 l0.length c0] w fun e w' => e = .returned (.tuple #[.string r1, .int .i64 r2]) ∧ Below w.heap.size w w' := by
 have hu35 := Tryz.underlying35; have HR0 := sd hr0; have HC0 := sd hc0; clear hr0 hc0; have HB := sd (Below.refl w.heap.size w); have H : (if (l0.length : Int) > 2000 then (some ((⟨#[]⟩ : ByteArray), 1)) else (spec_Unlex.l0 k l0 l0 (l0.length : Int) 0)) = some (r1, r2) := h; clear h
 by_cases c2 : (l0.length : Int) > 2000
 ·rw [if_pos c2] at H; have c2b0 : decide (2000 < (l0.length : Int)) = true := decide_eq_true c2; have c2b1 : decide (2000 < l0.length) = true := decide_eq_true (by omega); clear c2; simp only [Option.some.injEq, Prod.mk.injEq] at H; obtain ⟨rfl, rfl⟩ := H
  go_enter Tryz.func6, Tryz.ntmps6
  go_wp2
  go_ret2
  exact ⟨by first | rfl | (simp [*] <;> rfl), bE HB.out⟩
 ·rw [if_neg c2] at H; have c2b0 : decide (2000 < (l0.length : Int)) = false := decide_eq_false c2; have c2b1 : decide (2000 < l0.length) = false := decide_eq_false (by omega); clear c2; have H' := sd H
  clear H
  go_enter Tryz.func6, Tryz.ntmps6
  go_wp2
  go_loopg [14] k (fun kq v14 w' => ∃ (x14_1 : Int), v14 = .int .i64 x14_1 ∧ Aside0 (spec_Unlex.l0 kq l0 l0 (l0.length : Int) x14_1 = some (r1, r2)) ∧ Aside0 (kq ≤ k) ∧ Aside0 (Below w.heap.size w w'))
  case atStart => exact ⟨(0), (by first | rfl | (simp [*]; done)), H', ⟨Nat.le_refl _⟩, ⟨bE HB.out⟩⟩
  case round =>
   clear H'; (try clear c2); (try clear c2b0); (try clear c2b1); (try clear p2); obtain ⟨x14_1, rfl, HA, HK1, HB⟩ := hrel; cases gk with
   | zero => exact absurd HA.out (by simp [spec_Unlex.l0])
   | succ k1 =>
    have H := HA.out; clear HA; simp only [spec_Unlex.l0] at H
    by_cases c3 : x14_1 < (l0.length : Int)
    ·rw [if_pos c3] at H; have c3b0 : decide (x14_1 < (l0.length : Int)) = true := decide_eq_true c3; clear c3
     by_cases c4 : 0 ≤ x14_1
     ·rw [if_pos c4] at H; have c4b0 : decide (0 ≤ x14_1) = true := decide_eq_true c4; clear c4
      by_cases c5 : x14_1 < (l0.length : Int)
      ·rw [if_pos c5] at H; have c5b0 : decide (x14_1 < (l0.length : Int)) = true := decide_eq_true c5; clear c5; replace H := Option.bind_eq_some_iff.mp H; obtain ⟨t184, A60, H⟩ := H; replace H : (if t184 = true then (spec_Unlex.l0 k1 l0 l0 (l0.length : Int) (wrap64 (x14_1 + 1))) else (some ((⟨#[]⟩ : ByteArray), 1))) = some (r1, r2) := H; have A6 := sd A60; clear A60
       by_cases c7 : t184 = true
       ·subst c7; have H1 : (spec_Unlex.l0 k1 l0 l0 (l0.length : Int) (wrap64 (x14_1 + 1))) = some (r1, r2) := by rw [if_pos rfl] at H; exact H
        clear H; have H := H1; clear H1; have H' := sd H
        clear H; have p182 : 0 ≤ (x14_1 : Int) := of_decide_eq_true (by assumption); have q182 : x14_1 < (l0.length : Int) := of_decide_eq_true (by assumption); obtain ⟨ad182, e182, hx182_0, hx182_1, hx182_2⟩ := at_T35 HR0.out x14_1 p182 q182; cases e182; replace hx182_0 := (HB.out.cell (World.block_lt_of_cell? w _ hx182_0)).trans hx182_0; replace hx182_1 := (HB.out.cell (World.block_lt_of_cell? w _ hx182_1)).trans hx182_1; replace hx182_2 := (HB.out.cell (World.block_lt_of_cell? w _ hx182_2)).trans hx182_2; replace p182 := eq_true p182; replace q182 := eq_true q182
        go_wp2_with (first | ((with_reducible refine gate_dst (N := 5) rfl ?_); refine box_event ?hg (N := 5) ?hd (cs := #[.int .i64 0, .string (⟨#[]⟩ : ByteArray), .int .i64 0]) (t := 35) ?hr ?_; (case hd => rfl); (case hg => rfl); (case hr => go_simp <;> rfl); intro gb183 hg w8 hbox hb; have BK183 := sd (hbox); have GW183 := sd ((by rw [hg]; exact (bZ (bE HB.out)) : w.heap.size ≤ gb183)); have GE183 := GW183; replace HB := sd (bT (bE HB.out) hb); clear hb hbox hg; obtain ⟨hcz9_0, hcz9_1, hcz9_2, hfz9_0, hfz9_1, hfz9_2⟩ := row3 BK183.out) | ((with_reducible refine gate_callee (f := 13) rfl ?_); refine goesL_ (some 19) rfl rfl Tryz.func13 (by kernel_rfl) rfl #[.agg #[.int .i64 ((rd_T35 l0 x14_1).f0), .string ((rd_T35 l0 x14_1).f1), .int .i64 ((rd_T35 l0 x14_1).f2)]] rfl (by (try simp only [List.map_toArray, List.map_cons, List.map_nil]); first | done | rfl) ?_; (with_reducible refine (spec_l02TokenOK.calls k1 ((rd_T35 l0 x14_1).f0) ((rd_T35 l0 x14_1).f1) ((rd_T35 l0 x14_1).f2) true _ A6.out).mono ?_); rintro e w10 ⟨rfl, hb⟩; refine ⟨_, rfl, ?_⟩; replace BK183 := sd (blk_below (g := gb183) (o := .cells #[.int .i64 ((rd_T35 l0 x14_1).f0), .string ((rd_T35 l0 x14_1).f1), .int .i64 ((rd_T35 l0 x14_1).f2)] 35 (0, 0)) (by (with_reducible repeat (first | refine kN ?_ _ | refine k1 ?_ | refine kA ?_ _)); refine blk_put (cs := #[.int .i64 ((rd_T35 l0 x14_1).f0), .string ((rd_T35 l0 x14_1).f1), .int .i64 0]) ?_ 2 _ rfl; (with_reducible repeat (first | refine kN ?_ _ | refine k1 ?_ | refine kA ?_ _)); refine blk_put (cs := #[.int .i64 ((rd_T35 l0 x14_1).f0), .string (⟨#[]⟩ : ByteArray), .int .i64 0]) ?_ 1 _ rfl; (with_reducible repeat (first | refine kN ?_ _ | refine k1 ?_ | refine kA ?_ _)); refine blk_put (cs := #[.int .i64 0, .string (⟨#[]⟩ : ByteArray), .int .i64 0]) ?_ 0 _ rfl; exact kE BK183.out) hb); replace HB := sd (bT (bE HB.out) hb); (try clear hb); (try clear hb2); (try clear hk); (try clear hi)))
        go_roundg k1
        case measure => have := HK1.out; omega
        case rel => exact ⟨(wrap64 (x14_1 + 1)), (by first | rfl | (simp [*]; done)), H', ⟨by have := HK1.out; omega⟩, ⟨bE HB.out⟩⟩
       ·replace c7 := Bool.eq_false_iff.mpr c7; subst c7; have H1 : (some ((⟨#[]⟩ : ByteArray), 1)) = some (r1, r2) := by rw [if_neg (show ¬ (false = true) by decide)] at H; exact H
        clear H; have H := H1; clear H1; simp only [Option.some.injEq, Prod.mk.injEq] at H; obtain ⟨rfl, rfl⟩ := H; have p182 : 0 ≤ (x14_1 : Int) := of_decide_eq_true (by assumption); have q182 : x14_1 < (l0.length : Int) := of_decide_eq_true (by assumption); obtain ⟨ad182, e182, hx182_0, hx182_1, hx182_2⟩ := at_T35 HR0.out x14_1 p182 q182; cases e182; replace hx182_0 := (HB.out.cell (World.block_lt_of_cell? w _ hx182_0)).trans hx182_0; replace hx182_1 := (HB.out.cell (World.block_lt_of_cell? w _ hx182_1)).trans hx182_1; replace hx182_2 := (HB.out.cell (World.block_lt_of_cell? w _ hx182_2)).trans hx182_2; replace p182 := eq_true p182; replace q182 := eq_true q182
        go_wp2_with (first | ((with_reducible refine gate_dst (N := 5) rfl ?_); refine box_event ?hg (N := 5) ?hd (cs := #[.int .i64 0, .string (⟨#[]⟩ : ByteArray), .int .i64 0]) (t := 35) ?hr ?_; (case hd => rfl); (case hg => rfl); (case hr => go_simp <;> rfl); intro gb183 hg w11 hbox hb; have BK183 := sd (hbox); have GW183 := sd ((by rw [hg]; exact (bZ (bE HB.out)) : w.heap.size ≤ gb183)); have GE183 := GW183; replace HB := sd (bT (bE HB.out) hb); clear hb hbox hg; obtain ⟨hcz12_0, hcz12_1, hcz12_2, hfz12_0, hfz12_1, hfz12_2⟩ := row3 BK183.out) | ((with_reducible refine gate_callee (f := 13) rfl ?_); refine goesL_ (some 19) rfl rfl Tryz.func13 (by kernel_rfl) rfl #[.agg #[.int .i64 ((rd_T35 l0 x14_1).f0), .string ((rd_T35 l0 x14_1).f1), .int .i64 ((rd_T35 l0 x14_1).f2)]] rfl (by (try simp only [List.map_toArray, List.map_cons, List.map_nil]); first | done | rfl) ?_; (with_reducible refine (spec_l02TokenOK.calls k1 ((rd_T35 l0 x14_1).f0) ((rd_T35 l0 x14_1).f1) ((rd_T35 l0 x14_1).f2) false _ A6.out).mono ?_); rintro e w13 ⟨rfl, hb⟩; refine ⟨_, rfl, ?_⟩; replace BK183 := sd (blk_below (g := gb183) (o := .cells #[.int .i64 ((rd_T35 l0 x14_1).f0), .string ((rd_T35 l0 x14_1).f1), .int .i64 ((rd_T35 l0 x14_1).f2)] 35 (0, 0)) (by (with_reducible repeat (first | refine kN ?_ _ | refine k1 ?_ | refine kA ?_ _)); refine blk_put (cs := #[.int .i64 ((rd_T35 l0 x14_1).f0), .string ((rd_T35 l0 x14_1).f1), .int .i64 0]) ?_ 2 _ rfl; (with_reducible repeat (first | refine kN ?_ _ | refine k1 ?_ | refine kA ?_ _)); refine blk_put (cs := #[.int .i64 ((rd_T35 l0 x14_1).f0), .string (⟨#[]⟩ : ByteArray), .int .i64 0]) ?_ 1 _ rfl; (with_reducible repeat (first | refine kN ?_ _ | refine k1 ?_ | refine kA ?_ _)); refine blk_put (cs := #[.int .i64 0, .string (⟨#[]⟩ : ByteArray), .int .i64 0]) ?_ 0 _ rfl; exact kE BK183.out) hb); replace HB := sd (bT (bE HB.out) hb); (try clear hb); (try clear hb2); (try clear hk); (try clear hi)))
        go_ret2
        exact ⟨by first | rfl | (simp [*] <;> rfl), bE HB.out⟩
      ·rw [if_neg c5] at H; exact absurd H (by simp)
     ·rw [if_neg c4] at H; exact absurd H (by simp)
    ·rw [if_neg c3] at H; have c3b0 : decide (x14_1 < (l0.length : Int)) = false := decide_eq_false c3; clear c3; obtain ⟨y185, hy185⟩ : ∃ y_ : List Int, y_ = (([] : List Int)) := ⟨_, rfl⟩; replace H : (spec_Unlex.l1 k1 y185 l0 (l0.length : Int) 0) = some (r1, r2) := by first | (rw [hy185]; with_reducible exact H) | (have H2_ := (Option.bind_some _ _).symm.trans H; rw [hy185]; with_reducible exact H2_) | (have H2_ := (Option.bind_some _ _).symm.trans H; with_reducible exact H2_) | with_reducible exact H | (rw [hy185]; exact H) | exact H
     have Ny185 := sd hy185; clear hy185; have H' := sd H
     clear H
     go_wp2_with (first | ((with_reducible refine gate_dst (N := 22) rfl ?_); refine Kd.R_lit (Kd.int .u8) _ 5 ?hg (N := 22) ?hd (xs := ([] : List Int)) (inner := []) (ok := fun _ => True) (okp := fun _ => True) ?hr ?hp (fun _ hk => hk) trivial (Below.refl _ _) (Nat.le_refl _) (by simp) ?_; (case hd => rfl); (case hg => rfl); (case hr => go_simp <;> rfl); (case hp => exact (Reps.none _ _)); intro v186 w14 ho15 hb hg_ hnew_; clear hg_ hnew_; (first | rw [← Ny185.out] at ho15 | (simp only [Int.reduceToNat] at ho15; rw [← Ny185.out] at ho15)); have HO187 := sd (Kd.R_lower ho15 (bZ (bE HB.out))); replace HB := sd (bT (bE HB.out) hb); clear hb ho15))
     go_loopg [6, 25] k1 (fun kq v6 v25 w' => ∃ (x6_2 : List Int) (x25_2 : Int), v25 = .int .i64 x25_2 ∧ Aside0 (spec_Unlex.l1 kq x6_2 l0 (l0.length : Int) x25_2 = some (r1, r2)) ∧ Aside0 (kq ≤ k1) ∧ Aside0 (Kd.R (Kd.int .u8) 5 w' w.heap.size (fun _ => True) v6 x6_2) ∧ Aside0 (Below w.heap.size w w'))
     case atStart => exact ⟨(y185), (0), (by first | rfl | (simp [*]; done)), H', ⟨Nat.le_refl _⟩, ⟨rE HO187.out⟩, ⟨bE HB.out⟩⟩
     case round =>
      clear H'; (try clear c1); (try clear p1); (try clear q1); (try clear hx1); (try clear c2); (try clear c2b0); (try clear c2b1); (try clear p2); (try clear c3); (try clear c3b0); (try clear c4); (try clear c4b0); (try clear c5); (try clear c5b0); (try clear c6); (try clear p6); (try clear c7); (try clear c13); (try clear hcz12_0); (try clear hcz12_1); (try clear hcz12_2); (try clear hcz9_0); (try clear hcz9_1); (try clear hcz9_2); (try clear hfz12_0); (try clear hfz12_1); (try clear hfz12_2); (try clear hfz9_0); (try clear hfz9_1); (try clear hfz9_2); (try clear hx182_0); (try clear hx182_1); (try clear hx182_2); (try clear p182); (try clear p2); (try clear q182); obtain ⟨x6_2, x25_2, rfl, HA, HK2, HO_6, HB⟩ := hrel; cases gk with
      | zero => exact absurd HA.out (by simp [spec_Unlex.l1])
      | succ k2 =>
       have H := HA.out; clear HA; simp only [spec_Unlex.l1] at H
       by_cases c16 : x25_2 < (l0.length : Int)
       ·rw [if_pos c16] at H; have c16b0 : decide (x25_2 < (l0.length : Int)) = true := decide_eq_true c16; clear c16
        by_cases c17 : 0 ≤ x25_2
        ·rw [if_pos c17] at H; have c17b0 : decide (0 ≤ x25_2) = true := decide_eq_true c17; clear c17
         by_cases c18 : x25_2 < (l0.length : Int)
         ·rw [if_pos c18] at H; have c18b0 : decide (x25_2 < (l0.length : Int)) = true := decide_eq_true c18; clear c18
          by_cases c19 : x25_2 > 0
          ·rw [if_pos c19] at H; have c19b0 : decide (0 < x25_2) = true := decide_eq_true c19; clear c19
           by_cases c20 : x6_2.length < 140737488355328
           ·rw [if_pos c20] at H; have LMc20 := sd c20; clear c20; obtain ⟨y190, hy190⟩ : ∃ y_ : List Int, y_ = (x6_2 ++ [32]) := ⟨_, rfl⟩; replace H : ((spec_l02TokenText.f k2 ((rd_T35 l0 x25_2).f0) ((rd_T35 l0 x25_2).f1) ((rd_T35 l0 x25_2).f2)).bind fun t193 => (if y190.length + t193.size < 140737488355328 then (spec_Unlex.l1 k2 (y190 ++ bytesOf t193) l0 (l0.length : Int) (wrap64 (x25_2 + 1))) else (none))) = some (r1, r2) := by first | (rw [hy190]; with_reducible exact H) | (have H2_ := (Option.bind_some _ _).symm.trans H; rw [hy190]; with_reducible exact H2_) | (have H2_ := (Option.bind_some _ _).symm.trans H; with_reducible exact H2_) | with_reducible exact H | (rw [hy190]; exact H) | exact H
            have Ny190 := sd hy190; clear hy190; replace H := Option.bind_eq_some_iff.mp H; obtain ⟨t193, A210, H⟩ := H; replace H : (if y190.length + t193.size < 140737488355328 then (spec_Unlex.l1 k2 (y190 ++ bytesOf t193) l0 (l0.length : Int) (wrap64 (x25_2 + 1))) else (none)) = some (r1, r2) := H; have A21 := sd A210; clear A210
            by_cases c22 : y190.length + t193.size < 140737488355328
            ·rw [if_pos c22] at H; have LMc22 := sd c22; clear c22; obtain ⟨y194, hy194⟩ : ∃ y_ : List Int, y_ = (y190 ++ bytesOf t193) := ⟨_, rfl⟩; replace H : (spec_Unlex.l1 k2 y194 l0 (l0.length : Int) (wrap64 (x25_2 + 1))) = some (r1, r2) := by first | (rw [hy194]; with_reducible exact H) | (have H2_ := (Option.bind_some _ _).symm.trans H; rw [hy194]; with_reducible exact H2_) | (have H2_ := (Option.bind_some _ _).symm.trans H; with_reducible exact H2_) | with_reducible exact H | (rw [hy194]; exact H) | exact H
             have Ny194 := sd hy194; clear hy194; have H' := sd H
             clear H; have p188 : 0 ≤ (x25_2 : Int) := of_decide_eq_true (by assumption); have q188 : x25_2 < (l0.length : Int) := of_decide_eq_true (by assumption); obtain ⟨ad188, e188, hx188_0, hx188_1, hx188_2⟩ := at_T35 HR0.out x25_2 p188 q188; cases e188; replace hx188_0 := (HB.out.cell (World.block_lt_of_cell? w _ hx188_0)).trans hx188_0; replace hx188_1 := (HB.out.cell (World.block_lt_of_cell? w _ hx188_1)).trans hx188_1; replace hx188_2 := (HB.out.cell (World.block_lt_of_cell? w _ hx188_2)).trans hx188_2; replace p188 := eq_true p188; replace q188 := eq_true q188
             go_wp2_with (first | ((with_reducible refine gate_dst (N := 8) rfl ?_); refine box_event ?hg (N := 8) ?hd (cs := #[.int .i64 0, .string (⟨#[]⟩ : ByteArray), .int .i64 0]) (t := 35) ?hr ?_; (case hd => rfl); (case hg => rfl); (case hr => go_simp <;> rfl); intro gb189 hg w23 hbox hb; replace HO_6 := sd (Kd.R_below (rE HO_6.out) hb); have BK189 := sd (hbox); have GW189 := sd ((by rw [hg]; exact (bZ (bE HB.out)) : w.heap.size ≤ gb189)); have GE189 := GW189; replace HB := sd (bT (bE HB.out) hb); clear hb hbox hg; obtain ⟨hcz24_0, hcz24_1, hcz24_2, hfz24_0, hfz24_1, hfz24_2⟩ := row3 BK189.out) | ((with_reducible refine gate_builtin (b := .append) (xs := #[.tmp 32, .tmp 33]) rfl ?_); at_builtin; refine Kd.R_append (Kd.int .u8) (w0 := w) w.heap.size rfl (.tmp 32) (.tmp 33) 30 5 (.int .u8 0) 1 rfl Tryz.underlying30 info5 rfl (by decide) (by omega) u6 x6_2 32 [.int .u8 32] (fun _ => True) (fun _ => False) rfl (by first | (go_simp; done) | (go_simp; rfl)) ?aP (fun _ hk => hk.elim) ?aF ?aO ?aB ?aS ?aL ?_; (case aP => exact rfl); (case aB => exact (bE HB.out)); (case aF => exact (fun _ _ => trivial)); (case aO => exact (by (with_reducible repeat (first | apply rA | apply rN | apply r1)); exact Kd.R_mono (Kd.R_far (p := ⟨gb189, 2, none⟩) (Kd.R_far (p := ⟨gb189, 1, none⟩) (Kd.R_far (p := ⟨gb189, 0, none⟩) (Kd.R_types HO_6.out BK189.out (by decide)) (fun _ hk => hk.2) (.int .i64 ((rd_T35 l0 x25_2).f0))) (fun _ hk => hk.2) (.string ((rd_T35 l0 x25_2).f1))) (fun _ hk => hk.2) (.int .i64 ((rd_T35 l0 x25_2).f2))) (fun _ hk => trivial))); (case aS => exact (bZ (bE HB.out))); (case aL => have := LMc20.out; omega); intro v191 w25 ho hb hg hat; rw [← Ny190.out] at ho; replace BK189 := sd (blk_grown (g := gb189) (o := .cells #[.int .i64 ((rd_T35 l0 x25_2).f0), .string ((rd_T35 l0 x25_2).f1), .int .i64 ((rd_T35 l0 x25_2).f2)] 35 (0, 0)) (by (with_reducible repeat (first | refine kN ?_ _ | refine k1 ?_ | refine kA ?_ _)); refine blk_put (cs := #[.int .i64 ((rd_T35 l0 x25_2).f0), .string ((rd_T35 l0 x25_2).f1), .int .i64 0]) ?_ 2 _ rfl; (with_reducible repeat (first | refine kN ?_ _ | refine k1 ?_ | refine kA ?_ _)); refine blk_put (cs := #[.int .i64 ((rd_T35 l0 x25_2).f0), .string (⟨#[]⟩ : ByteArray), .int .i64 0]) ?_ 1 _ rfl; (with_reducible repeat (first | refine kN ?_ _ | refine k1 ?_ | refine kA ?_ _)); refine blk_put (cs := #[.int .i64 0, .string (⟨#[]⟩ : ByteArray), .int .i64 0]) ?_ 0 _ rfl; exact kE BK189.out) hg (Kd.R_ne HO_6.out BK189.out (by decide))); replace HB := sd (hb); have HO192 := sd (ho); clear HO_6; clear ho hb hg hat; obtain ⟨hcz26_0, hcz26_1, hcz26_2, hfz26_0, hfz26_1, hfz26_2⟩ := row3 BK189.out) | ((with_reducible refine gate_callee (f := 14) rfl ?_); refine goesL_ (some 37) rfl rfl Tryz.func14 (by kernel_rfl) rfl #[.agg #[.int .i64 ((rd_T35 l0 x25_2).f0), .string ((rd_T35 l0 x25_2).f1), .int .i64 ((rd_T35 l0 x25_2).f2)]] rfl (by (try simp only [List.map_toArray, List.map_cons, List.map_nil]); first | done | rfl) ?_; (with_reducible refine (spec_l02TokenText.calls k2 ((rd_T35 l0 x25_2).f0) ((rd_T35 l0 x25_2).f1) ((rd_T35 l0 x25_2).f2) t193 _ A21.out).mono ?_); rintro e w27 ⟨rfl, hb⟩; refine ⟨_, rfl, ?_⟩; replace HO192 := sd (Kd.R_below (rE HO192.out) hb); replace BK189 := sd (blk_below (g := gb189) (o := .cells #[.int .i64 ((rd_T35 l0 x25_2).f0), .string ((rd_T35 l0 x25_2).f1), .int .i64 ((rd_T35 l0 x25_2).f2)] 35 (0, 0)) (kE BK189.out) hb); replace HB := sd (bT (bE HB.out) hb); (try clear hb); (try clear hb2); (try clear hk); (try clear hi)) | (at_builtin; refine print_append_str (w0 := w) w.heap.size rfl (.tmp 35) _ 30 9 5 rfl Tryz.underlying30 Tryz.underlying9 info5 v191 y190 t193 rfl rfl ?aO ?aB ?aS ?aL ?_; (case aB => exact (bE HB.out)); (case aO => exact (Kd.own_of_R (rE HO192.out))); (case aS => exact (bZ (bE HB.out))); (case aL => have := LMc22.out; omega); intro v195 w28 ho0 hb hg; have ho := Kd.R_of_own (h1 := fun _ => rfl) (ok := fun _ => True) ho0 (fun _ _ => trivial); clear ho0; have hat := True.intro; rw [← Ny194.out] at ho; change Kd.R (Kd.int .u8) 5 w28 w.heap.size (fun _ => True) v195 y194 at ho; replace BK189 := sd (blk_grown (g := gb189) (o := .cells #[.int .i64 ((rd_T35 l0 x25_2).f0), .string ((rd_T35 l0 x25_2).f1), .int .i64 ((rd_T35 l0 x25_2).f2)] 35 (0, 0)) (kE BK189.out) hg (Kd.R_ne HO192.out BK189.out (by decide))); replace HB := sd (hb); have HO196 := sd (ho); clear HO192; clear ho hb hg hat))
             go_roundg k2
             case measure => have := HK1.out; have := HK2.out; omega
             case rel => exact ⟨(y194), (wrap64 (x25_2 + 1)), (by first | rfl | (simp [*]; done)), H', ⟨by have := HK1.out; have := HK2.out; omega⟩, ⟨rE HO196.out⟩, ⟨bE HB.out⟩⟩
            ·rw [if_neg c22] at H; exact absurd H (by simp)
           ·rw [if_neg c20] at H; exact absurd H (by simp)
          ·rw [if_neg c19] at H; have c19b0 : decide (0 < x25_2) = false := decide_eq_false c19; clear c19; replace H := Option.bind_eq_some_iff.mp H; obtain ⟨t197, A290, H⟩ := H; replace H : (if x6_2.length + t197.size < 140737488355328 then (spec_Unlex.l1 k2 (x6_2 ++ bytesOf t197) l0 (l0.length : Int) (wrap64 (x25_2 + 1))) else (none)) = some (r1, r2) := H; have A29 := sd A290; clear A290
           by_cases c30 : x6_2.length + t197.size < 140737488355328
           ·rw [if_pos c30] at H; have LMc30 := sd c30; clear c30; obtain ⟨y198, hy198⟩ : ∃ y_ : List Int, y_ = (x6_2 ++ bytesOf t197) := ⟨_, rfl⟩; replace H : (spec_Unlex.l1 k2 y198 l0 (l0.length : Int) (wrap64 (x25_2 + 1))) = some (r1, r2) := by first | (rw [hy198]; with_reducible exact H) | (have H2_ := (Option.bind_some _ _).symm.trans H; rw [hy198]; with_reducible exact H2_) | (have H2_ := (Option.bind_some _ _).symm.trans H; with_reducible exact H2_) | with_reducible exact H | (rw [hy198]; exact H) | exact H
            have Ny198 := sd hy198; clear hy198; have H' := sd H
            clear H; have p188 : 0 ≤ (x25_2 : Int) := of_decide_eq_true (by assumption); have q188 : x25_2 < (l0.length : Int) := of_decide_eq_true (by assumption); obtain ⟨ad188, e188, hx188_0, hx188_1, hx188_2⟩ := at_T35 HR0.out x25_2 p188 q188; cases e188; replace hx188_0 := (HB.out.cell (World.block_lt_of_cell? w _ hx188_0)).trans hx188_0; replace hx188_1 := (HB.out.cell (World.block_lt_of_cell? w _ hx188_1)).trans hx188_1; replace hx188_2 := (HB.out.cell (World.block_lt_of_cell? w _ hx188_2)).trans hx188_2; replace p188 := eq_true p188; replace q188 := eq_true q188
            go_wp2_with (first | ((with_reducible refine gate_dst (N := 8) rfl ?_); refine box_event ?hg (N := 8) ?hd (cs := #[.int .i64 0, .string (⟨#[]⟩ : ByteArray), .int .i64 0]) (t := 35) ?hr ?_; (case hd => rfl); (case hg => rfl); (case hr => go_simp <;> rfl); intro gb189 hg w31 hbox hb; replace HO_6 := sd (Kd.R_below (rE HO_6.out) hb); have BK189 := sd (hbox); have GW189 := sd ((by rw [hg]; exact (bZ (bE HB.out)) : w.heap.size ≤ gb189)); have GE189 := GW189; replace HB := sd (bT (bE HB.out) hb); clear hb hbox hg; obtain ⟨hcz32_0, hcz32_1, hcz32_2, hfz32_0, hfz32_1, hfz32_2⟩ := row3 BK189.out) | ((with_reducible refine gate_callee (f := 14) rfl ?_); refine goesL_ (some 37) rfl rfl Tryz.func14 (by kernel_rfl) rfl #[.agg #[.int .i64 ((rd_T35 l0 x25_2).f0), .string ((rd_T35 l0 x25_2).f1), .int .i64 ((rd_T35 l0 x25_2).f2)]] rfl (by (try simp only [List.map_toArray, List.map_cons, List.map_nil]); first | done | rfl) ?_; (with_reducible refine (spec_l02TokenText.calls k2 ((rd_T35 l0 x25_2).f0) ((rd_T35 l0 x25_2).f1) ((rd_T35 l0 x25_2).f2) t197 _ A29.out).mono ?_); rintro e w33 ⟨rfl, hb⟩; refine ⟨_, rfl, ?_⟩; replace HO_6 := sd (Kd.R_below (by (with_reducible repeat (first | apply rA | apply rN | apply r1)); exact (Kd.R_mono (Kd.R_far (p := ⟨gb189, 2, none⟩) (Kd.R_far (p := ⟨gb189, 1, none⟩) (Kd.R_far (p := ⟨gb189, 0, none⟩) (Kd.R_types HO_6.out BK189.out (by decide)) (fun _ hk => hk.2) (.int .i64 ((rd_T35 l0 x25_2).f0))) (fun _ hk => hk.2) (.string ((rd_T35 l0 x25_2).f1))) (fun _ hk => hk.2) (.int .i64 ((rd_T35 l0 x25_2).f2))) (fun _ h_ => h_.1))) hb); replace BK189 := sd (blk_below (g := gb189) (o := .cells #[.int .i64 ((rd_T35 l0 x25_2).f0), .string ((rd_T35 l0 x25_2).f1), .int .i64 ((rd_T35 l0 x25_2).f2)] 35 (0, 0)) (by (with_reducible repeat (first | refine kN ?_ _ | refine k1 ?_ | refine kA ?_ _)); refine blk_put (cs := #[.int .i64 ((rd_T35 l0 x25_2).f0), .string ((rd_T35 l0 x25_2).f1), .int .i64 0]) ?_ 2 _ rfl; (with_reducible repeat (first | refine kN ?_ _ | refine k1 ?_ | refine kA ?_ _)); refine blk_put (cs := #[.int .i64 ((rd_T35 l0 x25_2).f0), .string (⟨#[]⟩ : ByteArray), .int .i64 0]) ?_ 1 _ rfl; (with_reducible repeat (first | refine kN ?_ _ | refine k1 ?_ | refine kA ?_ _)); refine blk_put (cs := #[.int .i64 0, .string (⟨#[]⟩ : ByteArray), .int .i64 0]) ?_ 0 _ rfl; exact kE BK189.out) hb); replace HB := sd (bT (bE HB.out) hb); (try clear hb); (try clear hb2); (try clear hk); (try clear hi)) | (at_builtin; refine print_append_str (w0 := w) w.heap.size rfl (.tmp 35) _ 30 9 5 rfl Tryz.underlying30 Tryz.underlying9 info5 u6 x6_2 t197 rfl rfl ?aO ?aB ?aS ?aL ?_; (case aB => exact (bE HB.out)); (case aO => exact (Kd.own_of_R (rE HO_6.out))); (case aS => exact (bZ (bE HB.out))); (case aL => have := LMc30.out; omega); intro v199 w34 ho0 hb hg; have ho := Kd.R_of_own (h1 := fun _ => rfl) (ok := fun _ => True) ho0 (fun _ _ => trivial); clear ho0; have hat := True.intro; rw [← Ny198.out] at ho; change Kd.R (Kd.int .u8) 5 w34 w.heap.size (fun _ => True) v199 y198 at ho; replace BK189 := sd (blk_grown (g := gb189) (o := .cells #[.int .i64 ((rd_T35 l0 x25_2).f0), .string ((rd_T35 l0 x25_2).f1), .int .i64 ((rd_T35 l0 x25_2).f2)] 35 (0, 0)) (kE BK189.out) hg (Kd.R_ne HO_6.out BK189.out (by decide))); replace HB := sd (hb); have HO200 := sd (ho); clear HO_6; clear ho hb hg hat))
            go_roundg k2
            case measure => have := HK1.out; have := HK2.out; omega
            case rel => exact ⟨(y198), (wrap64 (x25_2 + 1)), (by first | rfl | (simp [*]; done)), H', ⟨by have := HK1.out; have := HK2.out; omega⟩, ⟨rE HO200.out⟩, ⟨bE HB.out⟩⟩
           ·rw [if_neg c30] at H; exact absurd H (by simp)
         ·rw [if_neg c18] at H; exact absurd H (by simp)
        ·rw [if_neg c17] at H; exact absurd H (by simp)
       ·rw [if_neg c16] at H; have c16b0 : decide (x25_2 < (l0.length : Int)) = false := decide_eq_false c16; clear c16
        by_cases c35 : (x6_2.length : Int) > 8000
        ·rw [if_pos c35] at H; have c35b0 : decide (8000 < (x6_2.length : Int)) = true := decide_eq_true c35; have c35b1 : decide (8000 < x6_2.length) = true := decide_eq_true (by omega); clear c35; simp only [Option.some.injEq, Prod.mk.injEq] at H; obtain ⟨rfl, rfl⟩ := H; obtain ⟨Ao36, co36, eo36⟩ := Kd.R_slice HO_6.out; subst eo36; go_wp2
         go_ret2
         exact ⟨by first | rfl | (simp [*] <;> rfl), bE HB.out⟩
        ·rw [if_neg c35] at H; have c35b0 : decide (8000 < (x6_2.length : Int)) = false := decide_eq_false c35; have c35b1 : decide (8000 < x6_2.length) = false := decide_eq_false (by omega); clear c35; simp only [Option.some.injEq, Prod.mk.injEq] at H; obtain ⟨rfl, rfl⟩ := H; obtain ⟨Ao37, co37, eo37⟩ := Kd.R_slice HO_6.out; subst eo37; have hcv38 := own_string (P := Tryz.prog) Tryz.underlying30 Tryz.underlying5 Tryz.underlying9 (Kd.own_of_R HO_6.out); go_wp2
         go_ret2
         exact ⟨by first | rfl | (simp [*] <;> rfl), bE HB.out⟩

/-! ### impl_written: function 17 -/
def impl_written.f (a0_0 : Int) (a0_1 : ByteArray) (a0_2 : Int) : Option (ByteArray) := if a0_0 = 2 then ((strings_ReplaceAll.f a0_1 (⟨#[34]⟩ : ByteArray) (⟨#[34, 34]⟩ : ByteArray)).bind fun t202 => (if 1 + t202.size ≤ 9223372036854775807 then (if ((⟨#[34]⟩ : ByteArray) ++ t202).size + 1 ≤ 9223372036854775807 then (some (((⟨#[34]⟩ : ByteArray) ++ t202) ++ (⟨#[34]⟩ : ByteArray))) else (none)) else (none))) else (if a0_0 = 5 then ((strings_ReplaceAll.f a0_1 (⟨#[39]⟩ : ByteArray) (⟨#[39, 39]⟩ : ByteArray)).bind fun t203 => (if 1 + t203.size ≤ 9223372036854775807 then (if ((⟨#[39]⟩ : ByteArray) ++ t203).size + 1 ≤ 9223372036854775807 then (some (((⟨#[39]⟩ : ByteArray) ++ t203) ++ (⟨#[39]⟩ : ByteArray))) else (none)) else (none))) else (some a0_1))
set_option maxHeartbeats 8000000 in
set_option maxRecDepth 100000 in
theorem impl_written.calls (a0_0 : Int) (a0_1 : ByteArray) (a0_2 : Int) (r : ByteArray) (w : World) (hT : Tabs w) (h : impl_written.f a0_0 a0_1 a0_2 = some r) :
  Calls Tryz.prog 17 #[.agg #[.int .i64 a0_0, .string a0_1, .int .i64 a0_2]] w fun e w' => e = .returned (.string r) ∧ Below w.heap.size w w' := by
 have hu35 := Tryz.underlying35; have HT := sd hT; clear hT; have HB := sd (Below.refl w.heap.size w); have H : (if a0_0 = 2 then ((strings_ReplaceAll.f a0_1 (⟨#[34]⟩ : ByteArray) (⟨#[34, 34]⟩ : ByteArray)).bind fun t202 => (if 1 + t202.size ≤ 9223372036854775807 then (if ((⟨#[34]⟩ : ByteArray) ++ t202).size + 1 ≤ 9223372036854775807 then (some (((⟨#[34]⟩ : ByteArray) ++ t202) ++ (⟨#[34]⟩ : ByteArray))) else (none)) else (none))) else (if a0_0 = 5 then ((strings_ReplaceAll.f a0_1 (⟨#[39]⟩ : ByteArray) (⟨#[39, 39]⟩ : ByteArray)).bind fun t203 => (if 1 + t203.size ≤ 9223372036854775807 then (if ((⟨#[39]⟩ : ByteArray) ++ t203).size + 1 ≤ 9223372036854775807 then (some (((⟨#[39]⟩ : ByteArray) ++ t203) ++ (⟨#[39]⟩ : ByteArray))) else (none)) else (none))) else (some a0_1))) = some r := h; clear h
 by_cases c2 : a0_0 = 2
 ·rw [if_pos c2] at H; have c2b0 : (a0_0 == 2) = true := beq_iff_eq.mpr c2; have c2b1 : (a0_0 != 2) = false := bne_eq_false_iff_eq.mpr c2; clear c2; replace H := Option.bind_eq_some_iff.mp H; obtain ⟨t202, A30, H⟩ := H; replace H : (if 1 + t202.size ≤ 9223372036854775807 then (if ((⟨#[34]⟩ : ByteArray) ++ t202).size + 1 ≤ 9223372036854775807 then (some (((⟨#[34]⟩ : ByteArray) ++ t202) ++ (⟨#[34]⟩ : ByteArray))) else (none)) else (none)) = some r := H; have A3 := sd A30; clear A30
  by_cases c4 : 1 + t202.size ≤ 9223372036854775807
  ·rw [if_pos c4] at H; have c4b0 := eq_true c4; have c4b1 : decide (1 + t202.size ≤ 9223372036854775807) = true := decide_eq_true c4
   try have c4b2 : (9223372036854775807 < 1 + t202.size) = False := eq_false (Nat.not_lt.2 c4)
   by_cases c5 : ((⟨#[34]⟩ : ByteArray) ++ t202).size + 1 ≤ 9223372036854775807
   ·rw [if_pos c5] at H; have c5b0 := eq_true c5; have c5b1 : decide (((⟨#[34]⟩ : ByteArray) ++ t202).size + 1 ≤ 9223372036854775807) = true := decide_eq_true c5
    try have c5b2 : (9223372036854775807 < ((⟨#[34]⟩ : ByteArray) ++ t202).size + 1) = False := eq_false (Nat.not_lt.2 c5)
    have c5b3 : (9223372036854775807 < 1 + t202.size + 1) = False := eq_false (Nat.not_lt.2 (by have h9 := c5; rw [ByteArray.size_append] at h9; exact h9)); obtain rfl := Option.some.inj H
    go_enter Tryz.func17, Tryz.ntmps17
    go_wp2_with (first | ((with_reducible refine gate_dst (N := 1) rfl ?_); refine box_event ?hg (N := 1) ?hd (cs := #[.int .i64 a0_0, .string a0_1, .int .i64 a0_2]) (t := 35) ?hr ?_; (case hd => rfl); (case hg => rfl); (case hr => go_simp <;> rfl); intro gb201 hg w6 hbox hb; have BK201 := sd (hbox); have GW201 := sd ((by rw [hg]; exact (bZ (bE HB.out)) : w.heap.size ≤ gb201)); have GE201 := GW201; replace HB := sd (bT (bE HB.out) hb); clear hb hbox hg; obtain ⟨hcz7_0, hcz7_1, hcz7_2, hfz7_0, hfz7_1, hfz7_2⟩ := row3 BK201.out) | ((with_reducible refine gate_callee (f := 34) rfl ?_); refine goesL_ (some 9) rfl rfl Tryz.func34 (by kernel_rfl) rfl #[.string a0_1, .string (⟨#[34]⟩ : ByteArray), .string (⟨#[34, 34]⟩ : ByteArray)] rfl (by (try simp only [List.map_toArray, List.map_cons, List.map_nil]); first | done | rfl) ?_; (with_reducible refine (strings_ReplaceAll.calls a0_1 (⟨#[34]⟩ : ByteArray) (⟨#[34, 34]⟩ : ByteArray) t202 _ ?side1 A3.out).mono ?_); (case side1 => refine Tabs.below HT.out ?_; exact bE HB.out); rintro e w8 ⟨rfl, hb⟩; refine ⟨_, rfl, ?_⟩; replace BK201 := sd (blk_below (g := gb201) (o := .cells #[.int .i64 a0_0, .string a0_1, .int .i64 a0_2] 35 (0, 0)) (kE BK201.out) hb); replace HB := sd (bT (bE HB.out) hb); (try clear hb); (try clear hb2); (try clear hk); (try clear hi)))
    go_ret
    exact ⟨by first | rfl | (simp [*] <;> rfl), bE HB.out⟩
   ·rw [if_neg c5] at H; exact absurd H (by simp)
  ·rw [if_neg c4] at H; exact absurd H (by simp)
 ·rw [if_neg c2] at H; have c2b0 : (a0_0 == 2) = false := beq_eq_false_iff_ne.mpr c2; have c2b1 : (a0_0 != 2) = true := bne_iff_ne.mpr c2
  by_cases c9 : a0_0 = 5
  ·rw [if_pos c9] at H; have c9b0 : (a0_0 == 5) = true := beq_iff_eq.mpr c9; have c9b1 : (a0_0 != 5) = false := bne_eq_false_iff_eq.mpr c9; clear c9; replace H := Option.bind_eq_some_iff.mp H; obtain ⟨t203, A100, H⟩ := H; replace H : (if 1 + t203.size ≤ 9223372036854775807 then (if ((⟨#[39]⟩ : ByteArray) ++ t203).size + 1 ≤ 9223372036854775807 then (some (((⟨#[39]⟩ : ByteArray) ++ t203) ++ (⟨#[39]⟩ : ByteArray))) else (none)) else (none)) = some r := H; have A10 := sd A100; clear A100
   by_cases c11 : 1 + t203.size ≤ 9223372036854775807
   ·rw [if_pos c11] at H; have c11b0 := eq_true c11; have c11b1 : decide (1 + t203.size ≤ 9223372036854775807) = true := decide_eq_true c11
    try have c11b2 : (9223372036854775807 < 1 + t203.size) = False := eq_false (Nat.not_lt.2 c11)
    by_cases c12 : ((⟨#[39]⟩ : ByteArray) ++ t203).size + 1 ≤ 9223372036854775807
    ·rw [if_pos c12] at H; have c12b0 := eq_true c12; have c12b1 : decide (((⟨#[39]⟩ : ByteArray) ++ t203).size + 1 ≤ 9223372036854775807) = true := decide_eq_true c12
     try have c12b2 : (9223372036854775807 < ((⟨#[39]⟩ : ByteArray) ++ t203).size + 1) = False := eq_false (Nat.not_lt.2 c12)
     have c12b3 : (9223372036854775807 < 1 + t203.size + 1) = False := eq_false (Nat.not_lt.2 (by have h9 := c12; rw [ByteArray.size_append] at h9; exact h9)); obtain rfl := Option.some.inj H
     go_enter Tryz.func17, Tryz.ntmps17
     go_wp2_with (first | ((with_reducible refine gate_dst (N := 1) rfl ?_); refine box_event ?hg (N := 1) ?hd (cs := #[.int .i64 a0_0, .string a0_1, .int .i64 a0_2]) (t := 35) ?hr ?_; (case hd => rfl); (case hg => rfl); (case hr => go_simp <;> rfl); intro gb201 hg w13 hbox hb; have BK201 := sd (hbox); have GW201 := sd ((by rw [hg]; exact (bZ (bE HB.out)) : w.heap.size ≤ gb201)); have GE201 := GW201; replace HB := sd (bT (bE HB.out) hb); clear hb hbox hg; obtain ⟨hcz14_0, hcz14_1, hcz14_2, hfz14_0, hfz14_1, hfz14_2⟩ := row3 BK201.out) | ((with_reducible refine gate_callee (f := 34) rfl ?_); refine goesL_ (some 16) rfl rfl Tryz.func34 (by kernel_rfl) rfl #[.string a0_1, .string (⟨#[39]⟩ : ByteArray), .string (⟨#[39, 39]⟩ : ByteArray)] rfl (by (try simp only [List.map_toArray, List.map_cons, List.map_nil]); first | done | rfl) ?_; (with_reducible refine (strings_ReplaceAll.calls a0_1 (⟨#[39]⟩ : ByteArray) (⟨#[39, 39]⟩ : ByteArray) t203 _ ?side1 A10.out).mono ?_); (case side1 => refine Tabs.below HT.out ?_; exact bE HB.out); rintro e w15 ⟨rfl, hb⟩; refine ⟨_, rfl, ?_⟩; replace BK201 := sd (blk_below (g := gb201) (o := .cells #[.int .i64 a0_0, .string a0_1, .int .i64 a0_2] 35 (0, 0)) (kE BK201.out) hb); replace HB := sd (bT (bE HB.out) hb); (try clear hb); (try clear hb2); (try clear hk); (try clear hi)))
     go_ret
     exact ⟨by first | rfl | (simp [*] <;> rfl), bE HB.out⟩
    ·rw [if_neg c12] at H; exact absurd H (by simp)
   ·rw [if_neg c11] at H; exact absurd H (by simp)
  ·rw [if_neg c9] at H; have c9b0 : (a0_0 == 5) = false := beq_eq_false_iff_ne.mpr c9; have c9b1 : (a0_0 != 5) = true := bne_iff_ne.mpr c9; obtain rfl := Option.some.inj H
   go_enter Tryz.func17, Tryz.ntmps17
   go_wp2_with (first | ((with_reducible refine gate_dst (N := 1) rfl ?_); refine box_event ?hg (N := 1) ?hd (cs := #[.int .i64 a0_0, .string a0_1, .int .i64 a0_2]) (t := 35) ?hr ?_; (case hd => rfl); (case hg => rfl); (case hr => go_simp <;> rfl); intro gb201 hg w16 hbox hb; have BK201 := sd (hbox); have GW201 := sd ((by rw [hg]; exact (bZ (bE HB.out)) : w.heap.size ≤ gb201)); have GE201 := GW201; replace HB := sd (bT (bE HB.out) hb); clear hb hbox hg; obtain ⟨hcz17_0, hcz17_1, hcz17_2, hfz17_0, hfz17_1, hfz17_2⟩ := row3 BK201.out))
   go_ret
   exact ⟨by first | rfl | (simp [*] <;> rfl), bE HB.out⟩

/-! ### impl_isLetter: function 32 -/
def impl_isLetter.f (a0 : Int) : Option (Bool) := if a0 ≥ 97 then (if a0 ≤ 122 then (some true) else (if a0 ≥ 65 then (if a0 ≤ 90 then (some true) else (some (a0 == 95))) else (some (a0 == 95)))) else (if a0 ≥ 65 then (if a0 ≤ 90 then (some true) else (some (a0 == 95))) else (some (a0 == 95)))
set_option maxHeartbeats 8000000 in
set_option maxRecDepth 100000 in
theorem impl_isLetter.calls (a0 : Int) (r : Bool) (w : World) (h : impl_isLetter.f a0 = some r) :
  Calls Tryz.prog 32 #[.int .u8 a0] w fun e w' => e = .returned (.bool r) ∧ Drawn0 w w' := by
 have H : (if a0 ≥ 97 then (if a0 ≤ 122 then (some true) else (if a0 ≥ 65 then (if a0 ≤ 90 then (some true) else (some (a0 == 95))) else (some (a0 == 95)))) else (if a0 ≥ 65 then (if a0 ≤ 90 then (some true) else (some (a0 == 95))) else (some (a0 == 95)))) = some r := h; clear h
 by_cases c2 : a0 ≥ 97
 ·rw [if_pos c2] at H; have c2b0 : decide (97 ≤ a0) = true := decide_eq_true c2; clear c2
  by_cases c3 : a0 ≤ 122
  ·rw [if_pos c3] at H; have c3b0 : decide (a0 ≤ 122) = true := decide_eq_true c3; clear c3; obtain rfl := Option.some.inj H
   go_enter Tryz.func32, Tryz.ntmps32
   go_wp2
   go_ret
   exact ⟨by first | rfl | (simp; done) | (simp [*]; done), by repeat (first | exact Drawn0.refl _ | apply Drawn0.step)⟩
  ·rw [if_neg c3] at H; have c3b0 : decide (a0 ≤ 122) = false := decide_eq_false c3; clear c3
   by_cases c4 : a0 ≥ 65
   ·rw [if_pos c4] at H; have c4b0 : decide (65 ≤ a0) = true := decide_eq_true c4; clear c4
    by_cases c5 : a0 ≤ 90
    ·rw [if_pos c5] at H; have c5b0 : decide (a0 ≤ 90) = true := decide_eq_true c5; clear c5; obtain rfl := Option.some.inj H
     go_enter Tryz.func32, Tryz.ntmps32
     go_wp2
     go_ret
     exact ⟨by first | rfl | (simp; done) | (simp [*]; done), by repeat (first | exact Drawn0.refl _ | apply Drawn0.step)⟩
    ·rw [if_neg c5] at H; have c5b0 : decide (a0 ≤ 90) = false := decide_eq_false c5; clear c5; obtain rfl := Option.some.inj H
     go_enter Tryz.func32, Tryz.ntmps32
     go_wp2
     go_ret
     exact ⟨by first | rfl | (simp; done) | (simp [*]; done), by repeat (first | exact Drawn0.refl _ | apply Drawn0.step)⟩
   ·rw [if_neg c4] at H; have c4b0 : decide (65 ≤ a0) = false := decide_eq_false c4; clear c4; obtain rfl := Option.some.inj H
    go_enter Tryz.func32, Tryz.ntmps32
    go_wp2
    go_ret
    exact ⟨by first | rfl | (simp; done) | (simp [*]; done), by repeat (first | exact Drawn0.refl _ | apply Drawn0.step)⟩
 ·rw [if_neg c2] at H; have c2b0 : decide (97 ≤ a0) = false := decide_eq_false c2; clear c2
  by_cases c6 : a0 ≥ 65
  ·rw [if_pos c6] at H; have c6b0 : decide (65 ≤ a0) = true := decide_eq_true c6; clear c6
   by_cases c7 : a0 ≤ 90
   ·rw [if_pos c7] at H; have c7b0 : decide (a0 ≤ 90) = true := decide_eq_true c7; clear c7; obtain rfl := Option.some.inj H
    go_enter Tryz.func32, Tryz.ntmps32
    go_wp2
    go_ret
    exact ⟨by first | rfl | (simp; done) | (simp [*]; done), by repeat (first | exact Drawn0.refl _ | apply Drawn0.step)⟩
   ·rw [if_neg c7] at H; have c7b0 : decide (a0 ≤ 90) = false := decide_eq_false c7; clear c7; obtain rfl := Option.some.inj H
    go_enter Tryz.func32, Tryz.ntmps32
    go_wp2
    go_ret
    exact ⟨by first | rfl | (simp; done) | (simp [*]; done), by repeat (first | exact Drawn0.refl _ | apply Drawn0.step)⟩
  ·rw [if_neg c6] at H; have c6b0 : decide (65 ≤ a0) = false := decide_eq_false c6; clear c6; obtain rfl := Option.some.inj H
   go_enter Tryz.func32, Tryz.ntmps32
   go_wp2
   go_ret
   exact ⟨by first | rfl | (simp; done) | (simp [*]; done), by repeat (first | exact Drawn0.refl _ | apply Drawn0.step)⟩

/-! ### impl_isDigit: function 33 -/
def impl_isDigit.f (a0 : Int) : Option (Bool) := if a0 ≥ 48 then (some (decide (a0 ≤ 57))) else (some false)
set_option maxHeartbeats 8000000 in
set_option maxRecDepth 100000 in
theorem impl_isDigit.calls (a0 : Int) (r : Bool) (w : World) (h : impl_isDigit.f a0 = some r) :
  Calls Tryz.prog 33 #[.int .u8 a0] w fun e w' => e = .returned (.bool r) ∧ Drawn0 w w' := by
 have H : (if a0 ≥ 48 then (some (decide (a0 ≤ 57))) else (some false)) = some r := h; clear h
 by_cases c2 : a0 ≥ 48
 ·rw [if_pos c2] at H; have c2b0 : decide (48 ≤ a0) = true := decide_eq_true c2; clear c2; obtain rfl := Option.some.inj H
  go_enter Tryz.func33, Tryz.ntmps33
  go_wp2
  go_ret
  exact ⟨by first | rfl | (simp; done) | (simp [*]; done), by repeat (first | exact Drawn0.refl _ | apply Drawn0.step)⟩
 ·rw [if_neg c2] at H; have c2b0 : decide (48 ≤ a0) = false := decide_eq_false c2; clear c2; obtain rfl := Option.some.inj H
  go_enter Tryz.func33, Tryz.ntmps33
  go_wp2
  go_ret
  exact ⟨by first | rfl | (simp; done) | (simp [*]; done), by repeat (first | exact Drawn0.refl _ | apply Drawn0.step)⟩

end Go.Proofs.YtackifpnpkbddaaGreatDoor.QFnLexed
