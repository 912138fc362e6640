-- Laid by a program of the session's own (wip/tools/mp.py); not the kit's print.
import Derived.Test.YtackifpnpkbddaaGreatDoorQFnLexedx0
namespace Go.Proofs.YtackifpnpkbddaaGreatDoor.QFnLexed
open Go.RowKit Go.Proofs.YtackifpnpkbddaaGreatDoorW.PrintWords Go.Proofs.YtackifpnpkbddaaGreatDoorW.PrintLast Go.Proofs.YtackifpnpkbddaaGreatDoorW.PrintMore Go.Proofs.YtackifpnpkbddaaGreatDoorScan
attribute [local go_sem] max2_int min2_int max_two min_two max_three min_three max_four min_four   -- for this text's walks alone
set_option linter.unusedVariables false
set_option linter.unusedSimpArgs false

/-! ### spec_l01Chars: function 49 -/
mutual
def spec_l01Chars.l0 : Nat → ByteArray → List Int → Int → Option (List Int × Bool)
 | 0, _, _, _ => none
 | k + 1, x0, x4, x5 => if x5 < (x0.size : Int) then (if 0 ≤ x5 then (if (wrap64 (bt x0 x5)) < 128 then (if x4.length < 17592186044416 then (spec_l01Chars.l0 k x0 (x4 ++ [wrap64 (bt x0 x5)]) (wrap64 (x5 + 1))) else (none)) else (if (wrap64 (bt x0 x5)) ≥ 194 then (spec_l01Chars.j1 k x0 x4 x5 (wrap64 (bt x0 x5)) (decide ((wrap64 (bt x0 x5)) < 224))) else (spec_l01Chars.j1 k x0 x4 x5 (wrap64 (bt x0 x5)) false))) else (none)) else (some (x4, true))
def spec_l01Chars.j3 : Nat → ByteArray → List Int → Int → Int → Int → Int → Option (List Int × Bool)
 | 0, _, _, _, _, _, _ => none
 | k + 1, x0, x4, x5, x6, x7, x8 => if (wrap64 (x5 + x7)) ≥ (x0.size : Int) then (some ((([] : List Int)), false)) else (spec_l01Chars.l1 k x0 x4 x5 x6 x7 x8 1)
def spec_l01Chars.l1 : Nat → ByteArray → List Int → Int → Int → Int → Int → Int → Option (List Int × Bool)
 | 0, _, _, _, _, _, _, _ => none
 | k + 1, x0, x4, x5, x6, x7, x8, x9 => if x9 ≤ x7 then (if 0 ≤ (wrap64 (x5 + x9)) then (if (wrap64 (x5 + x9)) < (x0.size : Int) then (if (wrap64 (bt x0 (wrap64 (x5 + x9)))) < 128 then (some ((([] : List Int)), false)) else (if (wrap64 (bt x0 (wrap64 (x5 + x9)))) > 191 then (some ((([] : List Int)), false)) else (spec_l01Chars.l1 k x0 x4 x5 (wrap64 ((wrap64 ((wrap64 (x6 * 64)) + (wrap64 (bt x0 (wrap64 (x5 + x9)))))) - 128)) x7 x8 (wrap64 (x9 + 1))))) else (none)) else (none)) else (if x6 < x8 then (some ((([] : List Int)), false)) else (if x6 > 1114111 then (some ((([] : List Int)), false)) else (if x6 ≥ 55296 then (if x6 ≤ 57343 then (some ((([] : List Int)), false)) else (if x4.length < 17592186044416 then (spec_l01Chars.l0 k x0 (x4 ++ [x6]) (wrap64 (x5 + (wrap64 (x7 + 1))))) else (none))) else (if x4.length < 17592186044416 then (spec_l01Chars.l0 k x0 (x4 ++ [x6]) (wrap64 (x5 + (wrap64 (x7 + 1))))) else (none)))))
def spec_l01Chars.j1 : Nat → ByteArray → List Int → Int → Int → Bool → Option (List Int × Bool)
 | 0, _, _, _, _, _ => none
 | k + 1, x0, x4, x5, x6, x30 => if x30 = true then (spec_l01Chars.j3 k x0 x4 x5 (wrap64 (x6 - 192)) 1 128) else (if x6 ≥ 224 then (spec_l01Chars.j2 k x0 x4 x5 x6 (decide (x6 < 240))) else (spec_l01Chars.j2 k x0 x4 x5 x6 false))
def spec_l01Chars.j2 : Nat → ByteArray → List Int → Int → Int → Bool → Option (List Int × Bool)
 | 0, _, _, _, _, _ => none
 | k + 1, x0, x4, x5, x6, x39 => if x39 = true then (spec_l01Chars.j3 k x0 x4 x5 (wrap64 (x6 - 224)) 2 2048) else (if x6 ≥ 240 then (if x6 < 245 then (spec_l01Chars.j3 k x0 x4 x5 (wrap64 (x6 - 240)) 3 65536) else (some ((([] : List Int)), false))) else (some ((([] : List Int)), false)))
end
def spec_l01Chars.f (k : Nat) (a0 : ByteArray) : Option (List Int × Bool) := spec_l01Chars.l0 k a0 (([] : List Int)) 0
theorem spec_l01Chars.mono_l : ∀ k, (∀ y0 y1 y2, LeO (spec_l01Chars.l0 k y0 y1 y2) (spec_l01Chars.l0 (k + 1) y0 y1 y2)) ∧ (∀ y0 y1 y2 y3 y4 y5, LeO (spec_l01Chars.j3 k y0 y1 y2 y3 y4 y5) (spec_l01Chars.j3 (k + 1) y0 y1 y2 y3 y4 y5)) ∧ (∀ y0 y1 y2 y3 y4 y5 y6, LeO (spec_l01Chars.l1 k y0 y1 y2 y3 y4 y5 y6) (spec_l01Chars.l1 (k + 1) y0 y1 y2 y3 y4 y5 y6)) ∧ (∀ y0 y1 y2 y3 y4, LeO (spec_l01Chars.j1 k y0 y1 y2 y3 y4) (spec_l01Chars.j1 (k + 1) y0 y1 y2 y3 y4)) ∧ (∀ y0 y1 y2 y3 y4, LeO (spec_l01Chars.j2 k y0 y1 y2 y3 y4) (spec_l01Chars.j2 (k + 1) y0 y1 y2 y3 y4))
 | 0 => ⟨fun _ _ _ r h => by simp [spec_l01Chars.l0] at h, fun _ _ _ _ _ _ r h => by simp [spec_l01Chars.j3] at h, fun _ _ _ _ _ _ _ r h => by simp [spec_l01Chars.l1] at h, fun _ _ _ _ _ r h => by simp [spec_l01Chars.j1] at h, fun _ _ _ _ _ r h => by simp [spec_l01Chars.j2] at h⟩
 | k + 1 => by
  obtain ⟨ih0, ih1, ih2, ih3, ih4⟩ := spec_l01Chars.mono_l k
  refine ⟨?_, ?_, ?_, ?_, ?_⟩
  ·intro y0 y1 y2
   unfold spec_l01Chars.l0
   repeat' first
   | (with_reducible exact ih0 _ _ _)
   | (with_reducible exact ih1 _ _ _ _ _ _)
   | (with_reducible exact ih2 _ _ _ _ _ _ _)
   | (with_reducible exact ih3 _ _ _ _ _)
   | (with_reducible exact ih4 _ _ _ _ _)
   | (with_reducible exact LeO.refl _)
   | (with_reducible exact LeO.none _)
   | (with_reducible refine LeO.ite ?_ ?_)
   | (with_reducible refine LeO.bind ?_ (fun _ => ?_))
   | exact ih0 _ _ _
   | exact ih1 _ _ _ _ _ _
   | exact ih2 _ _ _ _ _ _ _
   | exact ih3 _ _ _ _ _
   | exact ih4 _ _ _ _ _
   | exact LeO.none _
   | refine LeO.ite ?_ ?_
   | refine LeO.bind ?_ (fun _ => ?_)
  ·intro y0 y1 y2 y3 y4 y5
   unfold spec_l01Chars.j3
   repeat' first
   | (with_reducible exact ih0 _ _ _)
   | (with_reducible exact ih1 _ _ _ _ _ _)
   | (with_reducible exact ih2 _ _ _ _ _ _ _)
   | (with_reducible exact ih3 _ _ _ _ _)
   | (with_reducible exact ih4 _ _ _ _ _)
   | (with_reducible exact LeO.refl _)
   | (with_reducible exact LeO.none _)
   | (with_reducible refine LeO.ite ?_ ?_)
   | (with_reducible refine LeO.bind ?_ (fun _ => ?_))
   | exact ih0 _ _ _
   | exact ih1 _ _ _ _ _ _
   | exact ih2 _ _ _ _ _ _ _
   | exact ih3 _ _ _ _ _
   | exact ih4 _ _ _ _ _
   | exact LeO.none _
   | refine LeO.ite ?_ ?_
   | refine LeO.bind ?_ (fun _ => ?_)
  ·intro y0 y1 y2 y3 y4 y5 y6
   unfold spec_l01Chars.l1
   repeat' first
   | (with_reducible exact ih0 _ _ _)
   | (with_reducible exact ih1 _ _ _ _ _ _)
   | (with_reducible exact ih2 _ _ _ _ _ _ _)
   | (with_reducible exact ih3 _ _ _ _ _)
   | (with_reducible exact ih4 _ _ _ _ _)
   | (with_reducible exact LeO.refl _)
   | (with_reducible exact LeO.none _)
   | (with_reducible refine LeO.ite ?_ ?_)
   | (with_reducible refine LeO.bind ?_ (fun _ => ?_))
   | exact ih0 _ _ _
   | exact ih1 _ _ _ _ _ _
   | exact ih2 _ _ _ _ _ _ _
   | exact ih3 _ _ _ _ _
   | exact ih4 _ _ _ _ _
   | exact LeO.none _
   | refine LeO.ite ?_ ?_
   | refine LeO.bind ?_ (fun _ => ?_)
  ·intro y0 y1 y2 y3 y4
   unfold spec_l01Chars.j1
   repeat' first
   | (with_reducible exact ih0 _ _ _)
   | (with_reducible exact ih1 _ _ _ _ _ _)
   | (with_reducible exact ih2 _ _ _ _ _ _ _)
   | (with_reducible exact ih3 _ _ _ _ _)
   | (with_reducible exact ih4 _ _ _ _ _)
   | (with_reducible exact LeO.refl _)
   | (with_reducible exact LeO.none _)
   | (with_reducible refine LeO.ite ?_ ?_)
   | (with_reducible refine LeO.bind ?_ (fun _ => ?_))
   | exact ih0 _ _ _
   | exact ih1 _ _ _ _ _ _
   | exact ih2 _ _ _ _ _ _ _
   | exact ih3 _ _ _ _ _
   | exact ih4 _ _ _ _ _
   | exact LeO.none _
   | refine LeO.ite ?_ ?_
   | refine LeO.bind ?_ (fun _ => ?_)
  ·intro y0 y1 y2 y3 y4
   unfold spec_l01Chars.j2
   repeat' first
   | (with_reducible exact ih0 _ _ _)
   | (with_reducible exact ih1 _ _ _ _ _ _)
   | (with_reducible exact ih2 _ _ _ _ _ _ _)
   | (with_reducible exact ih3 _ _ _ _ _)
   | (with_reducible exact ih4 _ _ _ _ _)
   | (with_reducible exact LeO.refl _)
   | (with_reducible exact LeO.none _)
   | (with_reducible refine LeO.ite ?_ ?_)
   | (with_reducible refine LeO.bind ?_ (fun _ => ?_))
   | exact ih0 _ _ _
   | exact ih1 _ _ _ _ _ _
   | exact ih2 _ _ _ _ _ _ _
   | exact ih3 _ _ _ _ _
   | exact ih4 _ _ _ _ _
   | exact LeO.none _
   | refine LeO.ite ?_ ?_
   | refine LeO.bind ?_ (fun _ => ?_)
theorem spec_l01Chars.mono : ∀ a0 k, LeO (spec_l01Chars.f k a0) (spec_l01Chars.f (k + 1) a0) := by
 intro a0 k
 obtain ⟨ih0, ih1, ih2, ih3, ih4⟩ := spec_l01Chars.mono_l k
 unfold spec_l01Chars.f
 repeat' first
   | (with_reducible exact ih0 _ _ _)
   | (with_reducible exact ih1 _ _ _ _ _ _)
   | (with_reducible exact ih2 _ _ _ _ _ _ _)
   | (with_reducible exact ih3 _ _ _ _ _)
   | (with_reducible exact ih4 _ _ _ _ _)
   | (with_reducible exact LeO.refl _)
   | (with_reducible exact LeO.none _)
   | (with_reducible refine LeO.ite ?_ ?_)
   | (with_reducible refine LeO.bind ?_ (fun _ => ?_))
   | exact ih0 _ _ _
   | exact ih1 _ _ _ _ _ _
   | exact ih2 _ _ _ _ _ _ _
   | exact ih3 _ _ _ _ _
   | exact ih4 _ _ _ _ _
   | exact LeO.none _
   | refine LeO.ite ?_ ?_
   | refine LeO.bind ?_ (fun _ => ?_)
set_option maxHeartbeats 8000000 in
set_option maxRecDepth 100000 in
theorem spec_l01Chars.calls (k : Nat) (a0 : ByteArray) (r1 : List Int) (r2 : Bool) (w : World) (h : spec_l01Chars.f k a0 = some (r1, r2)) :
  Calls Tryz.prog 49 #[.string a0] w fun e w' => ∃ v0_ : Value, e = .returned (.tuple #[v0_, .bool r2]) ∧ Kd.R (Kd.int .i64) 3 w' w.heap.size (fun _ => True) v0_ r1 ∧ Below w.heap.size w w' := by
 have HB := sd (Below.refl w.heap.size w); have H : (spec_l01Chars.l0 k a0 (([] : List Int)) 0) = some (r1, r2) := h; clear h; obtain ⟨y113, hy113⟩ : ∃ y_ : List Int, y_ = (([] : List Int)) := ⟨_, rfl⟩; replace H : (spec_l01Chars.l0 k a0 y113 0) = some (r1, r2) := by first | (rw [hy113]; with_reducible exact H) | (have H2_ := (Option.bind_some _ _).symm.trans H; rw [hy113]; with_reducible exact H2_) | (have H2_ := (Option.bind_some _ _).symm.trans H; with_reducible exact H2_) | with_reducible exact H | (rw [hy113]; exact H) | exact H
 have Ny113 := sd hy113; clear hy113; have H' := sd H
 clear H
 go_enter Tryz.func49, Tryz.ntmps49
 go_wp2_with (first | ((with_reducible refine gate_dst (N := 11) rfl ?_); refine Kd.R_lit (Kd.int .i64) _ 3 ?hg (N := 11) ?hd (xs := ([] : List Int)) (inner := []) (ok := fun _ => True) (okp := fun _ => True) ?hr ?hp (fun _ hk => hk) trivial (Below.refl _ _) (Nat.le_refl _) (by simp) ?_; (case hd => rfl); (case hg => rfl); (case hr => go_simp <;> rfl); (case hp => exact (Reps.none _ _)); intro v114 w2 ho3 hb hg_ hnew_; clear hg_ hnew_; (first | rw [← Ny113.out] at ho3 | (simp only [Int.reduceToNat] at ho3; rw [← Ny113.out] at ho3)); have HO115 := sd (Kd.R_lower ho3 (bZ (bE HB.out))); replace HB := sd (bT (bE HB.out) hb); clear hb ho3))
 go_loopg [4, 5] k (fun kq v4 v5 w' => ∃ (x4_1 : List Int) (x5_1 : Int), v5 = .int .i64 x5_1 ∧ Aside0 (spec_l01Chars.l0 kq a0 x4_1 x5_1 = some (r1, r2)) ∧ Aside0 (kq ≤ k) ∧ Aside0 (Kd.R (Kd.int .i64) 3 w' w.heap.size (fun _ => True) v4 x4_1) ∧ Aside0 (Below w.heap.size w w'))
 case atStart => exact ⟨(y113), (0), (by first | rfl | (simp [*]; done)), H', ⟨Nat.le_refl _⟩, ⟨rE HO115.out⟩, ⟨bE HB.out⟩⟩
 case round =>
  clear H'; (try clear p2); obtain ⟨x4_1, x5_1, rfl, HA, HK1, HO_4, HB⟩ := hrel; cases gk with
  | zero => exact absurd HA.out (by simp [spec_l01Chars.l0])
  | succ k1 =>
   have H := HA.out; clear HA; simp only [spec_l01Chars.l0] at H
   by_cases c4 : x5_1 < (a0.size : Int)
   ·rw [if_pos c4] at H; have c4b0 : decide (x5_1 < (a0.size : Int)) = true := decide_eq_true c4; clear c4
    by_cases c5 : 0 ≤ x5_1
    ·rw [if_pos c5] at H; have c5b0 : decide (0 ≤ x5_1) = true := decide_eq_true c5; clear c5; have HC7 := sd H; clear H; have p6 : 0 ≤ (x5_1 : Int) := of_decide_eq_true (by assumption); have q6 : x5_1 < (a0.size : Int) := of_decide_eq_true (by assumption); have hx6 := bt_at a0 x5_1; replace p6 := eq_true p6; replace q6 := eq_true q6
     go_upto_block 2 with (fail)
     go_cut [4, 5, 6, 7, 8] (fun v4 v5 v6 v7 v8 wc => ∃ (kq : Nat) (x4_6 : List Int) (x5_6 : Int) (x6_6 : Int) (x7_6 : Int) (x8_6 : Int), v5 = .int .i64 x5_6 ∧ v6 = .int .i64 x6_6 ∧ v7 = .int .i64 x7_6 ∧ v8 = .int .i64 x8_6 ∧ Aside0 (spec_l01Chars.j3 kq a0 x4_6 x5_6 x6_6 x7_6 x8_6 = some (r1, r2)) ∧ Aside0 (kq ≤ k1) ∧ Aside0 (Kd.R (Kd.int .i64) 3 wc w.heap.size (fun _ => True) v4 x4_6) ∧ Aside0 (Below w.heap.size w wc))
     case first =>
      have H := HC7.out; clear HC7
      by_cases c8 : (wrap64 (bt a0 x5_1)) < 128
      ·rw [if_pos c8] at H; have c8b0 : decide ((wrap64 (bt a0 x5_1)) < 128) = true := decide_eq_true c8; clear c8
       (first | rw [c8b0] | (simp only [i64_w, i32_w]; rw [c8b0]) | skip)
       by_cases c9 : x4_1.length < 17592186044416
       ·rw [if_pos c9] at H; have LMc9 := sd c9; clear c9; obtain ⟨y116, hy116⟩ : ∃ y_ : List Int, y_ = (x4_1 ++ [wrap64 (bt a0 x5_1)]) := ⟨_, rfl⟩; replace H : (spec_l01Chars.l0 k1 a0 y116 (wrap64 (x5_1 + 1))) = some (r1, r2) := by first | (rw [hy116]; with_reducible exact H) | (have H2_ := (Option.bind_some _ _).symm.trans H; rw [hy116]; with_reducible exact H2_) | (have H2_ := (Option.bind_some _ _).symm.trans H; with_reducible exact H2_) | with_reducible exact H | (rw [hy116]; exact H) | exact H
        have Ny116 := sd hy116; clear hy116; have H' := sd H
        clear H
        go_wp2_with (first | ((with_reducible refine gate_builtin (b := .append) (xs := #[.tmp 24, .tmp 26]) rfl ?_); at_builtin; refine Kd.R_append (Kd.int .i64) (w0 := w) w.heap.size rfl (.tmp 24) (.tmp 26) 76 3 (.int .i64 0) 8 rfl Tryz.underlying76 info3 rfl (by decide) (by omega) u4 x4_1 (wrap64 (bt a0 x5_1)) [.int .i64 (wrap64 (bt a0 x5_1))] (fun _ => True) (fun _ => False) rfl rfl ?aP (fun _ hk => hk.elim) ?aF ?aO ?aB ?aS ?aL ?_; (case aP => exact rfl); (case aB => exact (bE HB.out)); (case aF => exact (fun _ _ => trivial)); (case aO => exact (rE HO_4.out)); (case aS => exact (bZ (bE HB.out))); (case aL => have := LMc9.out; omega); intro v117 w10 ho hb hg hat; rw [← Ny116.out] at ho; replace HB := sd (hb); have HO118 := sd (ho); clear HO_4; clear ho hb hg hat))
        go_roundg k1
        case measure => have := HK1.out; omega
        case rel => exact ⟨(y116), (wrap64 (x5_1 + 1)), (by first | rfl | (simp [*]; done)), H', ⟨by have := HK1.out; omega⟩, ⟨rE HO118.out⟩, ⟨bE HB.out⟩⟩
       ·rw [if_neg c9] at H; exact absurd H (by simp)
      ·rw [if_neg c8] at H; have c8b0 : decide ((wrap64 (bt a0 x5_1)) < 128) = false := decide_eq_false c8; clear c8
       (first | rw [c8b0] | (simp only [i64_w, i32_w]; rw [c8b0]) | skip)
       have HC11 := sd H; clear H
       go_upto_region 11 with (fail)
       go_cut [30] (fun v30 wc => ∃ (kq : Nat) (x30_10 : Bool), v30 = .bool x30_10 ∧ Aside0 (spec_l01Chars.j1 kq a0 x4_1 x5_1 (wrap64 (bt a0 x5_1)) x30_10 = some (r1, r2)) ∧ Aside0 (kq ≤ k1) ∧ Aside0 (Kd.R (Kd.int .i64) 3 wc w.heap.size (fun _ => True) u4 x4_1) ∧ Aside0 (Below w.heap.size w wc))
       case first =>
        have H := HC11.out; clear HC11
        by_cases c12 : (wrap64 (bt a0 x5_1)) ≥ 194
        ·rw [if_pos c12] at H; have c12b0 : decide (194 ≤ (wrap64 (bt a0 x5_1))) = true := decide_eq_true c12; clear c12
         (first | rw [c12b0] | (simp only [i64_w, i32_w]; rw [c12b0]) | skip)
         have H' := sd H
         clear H; go_wp2
         go_meet
         case rel => exact ⟨_, (decide ((wrap64 (bt a0 x5_1)) < 224)), (by first | rfl | (simp [*]; done)), H', ⟨by have := HK1.out; first | omega | exact Nat.le_refl _⟩, ⟨rE HO_4.out⟩, ⟨bE HB.out⟩⟩
        ·rw [if_neg c12] at H; have c12b0 : decide (194 ≤ (wrap64 (bt a0 x5_1))) = false := decide_eq_false c12; clear c12
         (first | rw [c12b0] | (simp only [i64_w, i32_w]; rw [c12b0]) | skip)
         have H' := sd H
         clear H; go_wp2
         go_meet
         case rel => exact ⟨_, (false), (by first | rfl | (simp [*]; done)), H', ⟨by have := HK1.out; first | omega | exact Nat.le_refl _⟩, ⟨rE HO_4.out⟩, ⟨bE HB.out⟩⟩
       case rest =>
        clear HC11; (try clear c1); (try clear p2); (try clear c4); (try clear c4b0); (try clear c5); (try clear c5b0); (try clear p6); (try clear q6); (try clear hx6); (try clear c8); (try clear c8b0); (try clear c9); (try clear c12); (try clear c12b0); (try clear p2); (try clear p6); (try clear q6); obtain ⟨kq, x30_10, rfl, HA, HJ10, HO_4, HB⟩ := hcut; cases kq with
        | zero => exact absurd HA.out (by simp [spec_l01Chars.j1])
        | succ kj10 =>
         have H := HA.out; clear HA; simp only [spec_l01Chars.j1] at H
         by_cases c13 : x30_10 = true
         ·subst c13; have H1 : (spec_l01Chars.j3 kj10 a0 x4_1 x5_1 (wrap64 ((wrap64 (bt a0 x5_1)) - 192)) 1 128) = some (r1, r2) := by rw [if_pos rfl] at H; exact H
          clear H; have H := H1; clear H1; have H' := sd H
          clear H; go_wp2
          go_meet
          case rel => exact ⟨_, (x4_1), (x5_1), (wrap64 ((wrap64 (bt a0 x5_1)) - 192)), (1), (128), (by first | rfl | (simp [*]; done)), (by first | rfl | (simp [*]; done)), (by first | rfl | (simp [*]; done)), (by first | rfl | (simp [*]; done)), H', ⟨by have := HK1.out; have := HJ10.out; first | omega | exact Nat.le_refl _⟩, ⟨rE HO_4.out⟩, ⟨bE HB.out⟩⟩
         ·replace c13 := Bool.eq_false_iff.mpr c13; subst c13; have H1 : (if (wrap64 (bt a0 x5_1)) ≥ 224 then (spec_l01Chars.j2 kj10 a0 x4_1 x5_1 (wrap64 (bt a0 x5_1)) (decide ((wrap64 (bt a0 x5_1)) < 240))) else (spec_l01Chars.j2 kj10 a0 x4_1 x5_1 (wrap64 (bt a0 x5_1)) false)) = some (r1, r2) := by rw [if_neg (show ¬ (false = true) by decide)] at H; exact H
          clear H; have H := H1; clear H1; have HC14 := sd H; clear H
          go_upto_region 13 with (fail)
          go_cut [39] (fun v39 wc => ∃ (kq : Nat) (x39_13 : Bool), v39 = .bool x39_13 ∧ Aside0 (spec_l01Chars.j2 kq a0 x4_1 x5_1 (wrap64 (bt a0 x5_1)) x39_13 = some (r1, r2)) ∧ Aside0 (kq ≤ kj10) ∧ Aside0 (Kd.R (Kd.int .i64) 3 wc w.heap.size (fun _ => True) u4 x4_1) ∧ Aside0 (Below w.heap.size w wc))
          case first =>
           have H := HC14.out; clear HC14
           by_cases c15 : (wrap64 (bt a0 x5_1)) ≥ 224
           ·rw [if_pos c15] at H; have c15b0 : decide (224 ≤ (wrap64 (bt a0 x5_1))) = true := decide_eq_true c15; clear c15
            (first | rw [c15b0] | (simp only [i64_w, i32_w]; rw [c15b0]) | skip)
            have H' := sd H
            clear H; go_wp2
            go_meet
            case rel => exact ⟨_, (decide ((wrap64 (bt a0 x5_1)) < 240)), (by first | rfl | (simp [*]; done)), H', ⟨by have := HK1.out; have := HJ10.out; first | omega | exact Nat.le_refl _⟩, ⟨rE HO_4.out⟩, ⟨bE HB.out⟩⟩
           ·rw [if_neg c15] at H; have c15b0 : decide (224 ≤ (wrap64 (bt a0 x5_1))) = false := decide_eq_false c15; clear c15
            (first | rw [c15b0] | (simp only [i64_w, i32_w]; rw [c15b0]) | skip)
            have H' := sd H
            clear H; go_wp2
            go_meet
            case rel => exact ⟨_, (false), (by first | rfl | (simp [*]; done)), H', ⟨by have := HK1.out; have := HJ10.out; first | omega | exact Nat.le_refl _⟩, ⟨rE HO_4.out⟩, ⟨bE HB.out⟩⟩
          case rest =>
           clear HC14; (try clear c1); (try clear p2); (try clear c4); (try clear c4b0); (try clear c5); (try clear c5b0); (try clear p6); (try clear q6); (try clear hx6); (try clear c8); (try clear c8b0); (try clear c9); (try clear c12); (try clear c12b0); (try clear c13); (try clear c15); (try clear c15b0); (try clear p2); (try clear p6); (try clear q6); obtain ⟨kq, x39_13, rfl, HA, HJ13, HO_4, HB⟩ := hcut; cases kq with
           | zero => exact absurd HA.out (by simp [spec_l01Chars.j2])
           | succ kj13 =>
            have H := HA.out; clear HA; simp only [spec_l01Chars.j2] at H
            by_cases c16 : x39_13 = true
            ·subst c16; have H1 : (spec_l01Chars.j3 kj13 a0 x4_1 x5_1 (wrap64 ((wrap64 (bt a0 x5_1)) - 224)) 2 2048) = some (r1, r2) := by rw [if_pos rfl] at H; exact H
             clear H; have H := H1; clear H1; have H' := sd H
             clear H; go_wp2
             go_meet
             case rel => exact ⟨_, (x4_1), (x5_1), (wrap64 ((wrap64 (bt a0 x5_1)) - 224)), (2), (2048), (by first | rfl | (simp [*]; done)), (by first | rfl | (simp [*]; done)), (by first | rfl | (simp [*]; done)), (by first | rfl | (simp [*]; done)), H', ⟨by have := HK1.out; have := HJ10.out; have := HJ13.out; first | omega | exact Nat.le_refl _⟩, ⟨rE HO_4.out⟩, ⟨bE HB.out⟩⟩
            ·replace c16 := Bool.eq_false_iff.mpr c16; subst c16; have H1 : (if (wrap64 (bt a0 x5_1)) ≥ 240 then (if (wrap64 (bt a0 x5_1)) < 245 then (spec_l01Chars.j3 kj13 a0 x4_1 x5_1 (wrap64 ((wrap64 (bt a0 x5_1)) - 240)) 3 65536) else (some ((([] : List Int)), false))) else (some ((([] : List Int)), false))) = some (r1, r2) := by rw [if_neg (show ¬ (false = true) by decide)] at H; exact H
             clear H; have H := H1; clear H1
             by_cases c17 : (wrap64 (bt a0 x5_1)) ≥ 240
             ·rw [if_pos c17] at H; have c17b0 : decide (240 ≤ (wrap64 (bt a0 x5_1))) = true := decide_eq_true c17; clear c17
              by_cases c18 : (wrap64 (bt a0 x5_1)) < 245
              ·rw [if_pos c18] at H; have c18b0 : decide ((wrap64 (bt a0 x5_1)) < 245) = true := decide_eq_true c18; clear c18; have H' := sd H
               clear H; go_wp2
               go_meet
               case rel => exact ⟨_, (x4_1), (x5_1), (wrap64 ((wrap64 (bt a0 x5_1)) - 240)), (3), (65536), (by first | rfl | (simp [*]; done)), (by first | rfl | (simp [*]; done)), (by first | rfl | (simp [*]; done)), (by first | rfl | (simp [*]; done)), H', ⟨by have := HK1.out; have := HJ10.out; have := HJ13.out; first | omega | exact Nat.le_refl _⟩, ⟨rE HO_4.out⟩, ⟨bE HB.out⟩⟩
              ·rw [if_neg c18] at H; have c18b0 : decide ((wrap64 (bt a0 x5_1)) < 245) = false := decide_eq_false c18; clear c18; obtain ⟨y119, hy119⟩ : ∃ y_ : List Int, y_ = (([] : List Int)) := ⟨_, rfl⟩; replace H : (some (y119, false)) = some (r1, r2) := by first | (rw [hy119]; with_reducible exact H) | (have H2_ := (Option.bind_some _ _).symm.trans H; rw [hy119]; with_reducible exact H2_) | (have H2_ := (Option.bind_some _ _).symm.trans H; with_reducible exact H2_) | with_reducible exact H | (rw [hy119]; exact H) | exact H
               have Ny119 := sd hy119; clear hy119; simp only [Option.some.injEq, Prod.mk.injEq] at H; obtain ⟨rfl, rfl⟩ := H
               go_wp2_with (first | ((with_reducible refine gate_dst (N := 20) rfl ?_); refine Kd.R_lit (Kd.int .i64) _ 3 ?hg (N := 20) ?hd (xs := ([] : List Int)) (inner := []) (ok := fun _ => True) (okp := fun _ => True) ?hr ?hp (fun _ hk => hk) trivial (Below.refl _ _) (Nat.le_refl _) (by simp) ?_; (case hd => rfl); (case hg => rfl); (case hr => go_simp <;> rfl); (case hp => exact (Reps.none _ _)); intro v120 w19 ho20 hb hg_ hnew_; clear hg_ hnew_; (first | rw [← Ny119.out] at ho20 | (simp only [Int.reduceToNat] at ho20; rw [← Ny119.out] at ho20)); have HO121 := sd (Kd.R_lower (Kd.R_new' ho20 (Kd.R_lt (rE HO_4.out))) (bZ (bE HB.out))); replace HO_4 := sd (Kd.R_elder' (rE HO_4.out) (Kd.R_base ho20) hb); replace HB := sd (bT (bE HB.out) hb); clear hb ho20))
               go_ret2
               exact ⟨_, by first | rfl | (simp [*] <;> rfl), by (with_reducible repeat (first | apply rA | apply rN | apply r1)); exact Kd.R_mono HO121.out (fun _ hk => trivial), bE HB.out⟩
             ·rw [if_neg c17] at H; have c17b0 : decide (240 ≤ (wrap64 (bt a0 x5_1))) = false := decide_eq_false c17; clear c17; obtain ⟨y122, hy122⟩ : ∃ y_ : List Int, y_ = (([] : List Int)) := ⟨_, rfl⟩; replace H : (some (y122, false)) = some (r1, r2) := by first | (rw [hy122]; with_reducible exact H) | (have H2_ := (Option.bind_some _ _).symm.trans H; rw [hy122]; with_reducible exact H2_) | (have H2_ := (Option.bind_some _ _).symm.trans H; with_reducible exact H2_) | with_reducible exact H | (rw [hy122]; exact H) | exact H
              have Ny122 := sd hy122; clear hy122; simp only [Option.some.injEq, Prod.mk.injEq] at H; obtain ⟨rfl, rfl⟩ := H
              go_wp2_with (first | ((with_reducible refine gate_dst (N := 20) rfl ?_); refine Kd.R_lit (Kd.int .i64) _ 3 ?hg (N := 20) ?hd (xs := ([] : List Int)) (inner := []) (ok := fun _ => True) (okp := fun _ => True) ?hr ?hp (fun _ hk => hk) trivial (Below.refl _ _) (Nat.le_refl _) (by simp) ?_; (case hd => rfl); (case hg => rfl); (case hr => go_simp <;> rfl); (case hp => exact (Reps.none _ _)); intro v123 w21 ho22 hb hg_ hnew_; clear hg_ hnew_; (first | rw [← Ny122.out] at ho22 | (simp only [Int.reduceToNat] at ho22; rw [← Ny122.out] at ho22)); have HO124 := sd (Kd.R_lower (Kd.R_new' ho22 (Kd.R_lt (rE HO_4.out))) (bZ (bE HB.out))); replace HO_4 := sd (Kd.R_elder' (rE HO_4.out) (Kd.R_base ho22) hb); replace HB := sd (bT (bE HB.out) hb); clear hb ho22))
              go_ret2
              exact ⟨_, by first | rfl | (simp [*] <;> rfl), by (with_reducible repeat (first | apply rA | apply rN | apply r1)); exact Kd.R_mono HO124.out (fun _ hk => trivial), bE HB.out⟩
     case rest =>
      clear HC7; (try clear c1); (try clear p2); (try clear c4); (try clear c4b0); (try clear c5); (try clear c5b0); (try clear p6); (try clear q6); (try clear hx6); (try clear c8); (try clear c8b0); (try clear c9); (try clear c12); (try clear c12b0); (try clear c13); (try clear c15); (try clear c15b0); (try clear c16); (try clear c17); (try clear c17b0); (try clear c18); (try clear c18b0); (try clear p2); (try clear p6); (try clear q6); obtain ⟨kq, x4_6, x5_6, x6_6, x7_6, x8_6, rfl, rfl, rfl, rfl, HA, HJ6, HO_4, HB⟩ := hcut; cases kq with
      | zero => exact absurd HA.out (by simp [spec_l01Chars.j3])
      | succ kj6 =>
       have H := HA.out; clear HA; simp only [spec_l01Chars.j3] at H
       by_cases c23 : (wrap64 (x5_6 + x7_6)) ≥ (a0.size : Int)
       ·rw [if_pos c23] at H; have c23b0 : decide ((a0.size : Int) ≤ (wrap64 (x5_6 + x7_6))) = true := decide_eq_true c23; clear c23; obtain ⟨y125, hy125⟩ : ∃ y_ : List Int, y_ = (([] : List Int)) := ⟨_, rfl⟩; replace H : (some (y125, false)) = some (r1, r2) := by first | (rw [hy125]; with_reducible exact H) | (have H2_ := (Option.bind_some _ _).symm.trans H; rw [hy125]; with_reducible exact H2_) | (have H2_ := (Option.bind_some _ _).symm.trans H; with_reducible exact H2_) | with_reducible exact H | (rw [hy125]; exact H) | exact H
        have Ny125 := sd hy125; clear hy125; simp only [Option.some.injEq, Prod.mk.injEq] at H; obtain ⟨rfl, rfl⟩ := H
        go_wp2_with (first | ((with_reducible refine gate_dst (N := 63) rfl ?_); refine Kd.R_lit (Kd.int .i64) _ 3 ?hg (N := 63) ?hd (xs := ([] : List Int)) (inner := []) (ok := fun _ => True) (okp := fun _ => True) ?hr ?hp (fun _ hk => hk) trivial (Below.refl _ _) (Nat.le_refl _) (by simp) ?_; (case hd => rfl); (case hg => rfl); (case hr => go_simp <;> rfl); (case hp => exact (Reps.none _ _)); intro v126 w24 ho25 hb hg_ hnew_; clear hg_ hnew_; (first | rw [← Ny125.out] at ho25 | (simp only [Int.reduceToNat] at ho25; rw [← Ny125.out] at ho25)); have HO127 := sd (Kd.R_lower (Kd.R_new' ho25 (Kd.R_lt (rE HO_4.out))) (bZ (bE HB.out))); replace HO_4 := sd (Kd.R_elder' (rE HO_4.out) (Kd.R_base ho25) hb); replace HB := sd (bT (bE HB.out) hb); clear hb ho25))
        go_ret2
        exact ⟨_, by first | rfl | (simp [*] <;> rfl), by (with_reducible repeat (first | apply rA | apply rN | apply r1)); exact Kd.R_mono HO127.out (fun _ hk => trivial), bE HB.out⟩
       ·rw [if_neg c23] at H; have c23b0 : decide ((a0.size : Int) ≤ (wrap64 (x5_6 + x7_6))) = false := decide_eq_false c23; clear c23; have H' := sd H
        clear H; go_wp2
        go_loopg [6, 9] kj6 (fun kq v6 v9 w' => ∃ (x6_3 : Int) (x9_3 : Int), v6 = .int .i64 x6_3 ∧ v9 = .int .i64 x9_3 ∧ Aside0 (spec_l01Chars.l1 kq a0 x4_6 x5_6 x6_3 x7_6 x8_6 x9_3 = some (r1, r2)) ∧ Aside0 (kq ≤ kj6) ∧ Aside0 (Kd.R (Kd.int .i64) 3 w' w.heap.size (fun _ => True) u4 x4_6) ∧ Aside0 (Below w.heap.size w w'))
        case atStart => exact ⟨(x6_6), (1), (by first | rfl | (simp [*]; done)), (by first | rfl | (simp [*]; done)), H', ⟨Nat.le_refl _⟩, ⟨rE HO_4.out⟩, ⟨bE HB.out⟩⟩
        case round =>
         clear H'; (try clear c1); (try clear c2); (try clear p2); (try clear c4); (try clear c4b0); (try clear c5); (try clear c5b0); (try clear p6); (try clear q6); (try clear hx6); (try clear c8); (try clear c8b0); (try clear c9); (try clear c12); (try clear c12b0); (try clear c13); (try clear c15); (try clear c15b0); (try clear c16); (try clear c17); (try clear c17b0); (try clear c18); (try clear c18b0); (try clear c23); (try clear c23b0); (try clear p2); (try clear p6); (try clear q6); obtain ⟨x6_3, x9_3, rfl, rfl, HA, HK3, HO_4, HB⟩ := hrel; cases gk with
         | zero => exact absurd HA.out (by simp [spec_l01Chars.l1])
         | succ k3 =>
          have H := HA.out; clear HA; simp only [spec_l01Chars.l1] at H
          by_cases c26 : x9_3 ≤ x7_6
          ·rw [if_pos c26] at H; have c26b0 : decide (x9_3 ≤ x7_6) = true := decide_eq_true c26; clear c26; obtain ⟨ji27, hji27⟩ : ∃ j_ : Int, (wrap64 (x5_6 + x9_3)) = j_ := ⟨_, rfl⟩; replace H : (if 0 ≤ (ji27) then (if (ji27) < (a0.size : Int) then (if (wrap64 (bt a0 (ji27))) < 128 then (some ((([] : List Int)), false)) else (if (wrap64 (bt a0 (ji27))) > 191 then (some ((([] : List Int)), false)) else (spec_l01Chars.l1 k3 a0 x4_6 x5_6 (wrap64 ((wrap64 ((wrap64 (x6_3 * 64)) + (wrap64 (bt a0 (ji27))))) - 128)) x7_6 x8_6 (wrap64 (x9_3 + 1))))) else (none)) else (none)) = some (r1, r2) := by first | (rw [hji27] at H; exact H) | (simp only [hji27] at H ⊢; exact H)
           have hji27w : (IntKind.i64.wrap (x5_6 + x9_3)) = ji27 := (i64_w _).trans hji27
           by_cases c28 : 0 ≤ (ji27)
           ·rw [if_pos c28] at H; have c28b0 : decide (0 ≤ (ji27)) = true := decide_eq_true c28; clear c28
            by_cases c29 : (ji27) < (a0.size : Int)
            ·rw [if_pos c29] at H; have c29b0 : decide ((ji27) < (a0.size : Int)) = true := decide_eq_true c29; clear c29
             by_cases c31 : (wrap64 (bt a0 (ji27))) < 128
             ·rw [if_pos c31] at H; have c31b0 : decide ((wrap64 (bt a0 (ji27))) < 128) = true := decide_eq_true c31; clear c31; obtain ⟨y128, hy128⟩ : ∃ y_ : List Int, y_ = (([] : List Int)) := ⟨_, rfl⟩; replace H : (some (y128, false)) = some (r1, r2) := by first | (rw [hy128]; with_reducible exact H) | (have H2_ := (Option.bind_some _ _).symm.trans H; rw [hy128]; with_reducible exact H2_) | (have H2_ := (Option.bind_some _ _).symm.trans H; with_reducible exact H2_) | with_reducible exact H | (rw [hy128]; exact H) | exact H
              have Ny128 := sd hy128; clear hy128; simp only [Option.some.injEq, Prod.mk.injEq] at H; obtain ⟨rfl, rfl⟩ := H; have p30 : 0 ≤ ((ji27) : Int) := of_decide_eq_true (by assumption); have q30 : (ji27) < (a0.size : Int) := of_decide_eq_true (by assumption); have hx30 := bt_at a0 (ji27); replace p30 := eq_true p30; replace q30 := eq_true q30
              go_wp2_with (first | ((with_reducible refine gate_dst (N := 81) rfl ?_); refine Kd.R_lit (Kd.int .i64) _ 3 ?hg (N := 81) ?hd (xs := ([] : List Int)) (inner := []) (ok := fun _ => True) (okp := fun _ => True) ?hr ?hp (fun _ hk => hk) trivial (Below.refl _ _) (Nat.le_refl _) (by simp) ?_; (case hd => rfl); (case hg => rfl); (case hr => go_simp <;> rfl); (case hp => exact (Reps.none _ _)); intro v129 w32 ho33 hb hg_ hnew_; clear hg_ hnew_; (first | rw [← Ny128.out] at ho33 | (simp only [Int.reduceToNat] at ho33; rw [← Ny128.out] at ho33)); have HO130 := sd (Kd.R_lower (Kd.R_new' ho33 (Kd.R_lt (rE HO_4.out))) (bZ (bE HB.out))); replace HO_4 := sd (Kd.R_elder' (rE HO_4.out) (Kd.R_base ho33) hb); replace HB := sd (bT (bE HB.out) hb); clear hb ho33))
              go_ret2
              exact ⟨_, by first | rfl | (simp [errW_none, errW_some] <;> rfl) | (simp only [← hji27]; first | rfl | (simp [errW_none, errW_some] <;> rfl)) | (simp [*, errW_none, errW_some] <;> rfl), by (with_reducible repeat (first | apply rA | apply rN | apply r1)); exact Kd.R_mono HO130.out (fun _ hk => trivial), bE HB.out⟩
             ·rw [if_neg c31] at H; have c31b0 : decide ((wrap64 (bt a0 (ji27))) < 128) = false := decide_eq_false c31; clear c31
              by_cases c34 : (wrap64 (bt a0 (ji27))) > 191
              ·rw [if_pos c34] at H; have c34b0 : decide (191 < (wrap64 (bt a0 (ji27)))) = true := decide_eq_true c34; clear c34; obtain ⟨y131, hy131⟩ : ∃ y_ : List Int, y_ = (([] : List Int)) := ⟨_, rfl⟩; replace H : (some (y131, false)) = some (r1, r2) := by first | (rw [hy131]; with_reducible exact H) | (have H2_ := (Option.bind_some _ _).symm.trans H; rw [hy131]; with_reducible exact H2_) | (have H2_ := (Option.bind_some _ _).symm.trans H; with_reducible exact H2_) | with_reducible exact H | (rw [hy131]; exact H) | exact H
               have Ny131 := sd hy131; clear hy131; simp only [Option.some.injEq, Prod.mk.injEq] at H; obtain ⟨rfl, rfl⟩ := H; have p30 : 0 ≤ ((ji27) : Int) := of_decide_eq_true (by assumption); have q30 : (ji27) < (a0.size : Int) := of_decide_eq_true (by assumption); have hx30 := bt_at a0 (ji27); replace p30 := eq_true p30; replace q30 := eq_true q30
               go_wp2_with (first | ((with_reducible refine gate_dst (N := 81) rfl ?_); refine Kd.R_lit (Kd.int .i64) _ 3 ?hg (N := 81) ?hd (xs := ([] : List Int)) (inner := []) (ok := fun _ => True) (okp := fun _ => True) ?hr ?hp (fun _ hk => hk) trivial (Below.refl _ _) (Nat.le_refl _) (by simp) ?_; (case hd => rfl); (case hg => rfl); (case hr => go_simp <;> rfl); (case hp => exact (Reps.none _ _)); intro v132 w35 ho36 hb hg_ hnew_; clear hg_ hnew_; (first | rw [← Ny131.out] at ho36 | (simp only [Int.reduceToNat] at ho36; rw [← Ny131.out] at ho36)); have HO133 := sd (Kd.R_lower (Kd.R_new' ho36 (Kd.R_lt (rE HO_4.out))) (bZ (bE HB.out))); replace HO_4 := sd (Kd.R_elder' (rE HO_4.out) (Kd.R_base ho36) hb); replace HB := sd (bT (bE HB.out) hb); clear hb ho36))
               go_ret2
               exact ⟨_, by first | rfl | (simp [errW_none, errW_some] <;> rfl) | (simp only [← hji27]; first | rfl | (simp [errW_none, errW_some] <;> rfl)) | (simp [*, errW_none, errW_some] <;> rfl), by (with_reducible repeat (first | apply rA | apply rN | apply r1)); exact Kd.R_mono HO133.out (fun _ hk => trivial), bE HB.out⟩
              ·rw [if_neg c34] at H; have c34b0 : decide (191 < (wrap64 (bt a0 (ji27)))) = false := decide_eq_false c34; clear c34; have H' := sd H
               clear H; have p30 : 0 ≤ ((ji27) : Int) := of_decide_eq_true (by assumption); have q30 : (ji27) < (a0.size : Int) := of_decide_eq_true (by assumption); have hx30 := bt_at a0 (ji27); replace p30 := eq_true p30; replace q30 := eq_true q30; go_wp2
               go_roundg k3
               case measure => have := HK1.out; have := HJ6.out; have := HK3.out; omega
               case rel => exact ⟨(wrap64 ((wrap64 ((wrap64 (x6_3 * 64)) + (wrap64 (bt a0 (ji27))))) - 128)), (wrap64 (x9_3 + 1)), (by first | rfl | (simp; done) | (simp only [← hji27] <;> (first | rfl | simp)) | (simp [*]; done)), (by first | rfl | (simp [*]; done)), H', ⟨by have := HK1.out; have := HJ6.out; have := HK3.out; omega⟩, ⟨rE HO_4.out⟩, ⟨bE HB.out⟩⟩
            ·rw [if_neg c29] at H; exact absurd H (by simp)
           ·rw [if_neg c28] at H; exact absurd H (by simp)
          ·rw [if_neg c26] at H; have c26b0 : decide (x9_3 ≤ x7_6) = false := decide_eq_false c26; clear c26
           by_cases c37 : x6_3 < x8_6
           ·rw [if_pos c37] at H; have c37b0 : decide (x6_3 < x8_6) = true := decide_eq_true c37; clear c37; obtain ⟨y134, hy134⟩ : ∃ y_ : List Int, y_ = (([] : List Int)) := ⟨_, rfl⟩; replace H : (some (y134, false)) = some (r1, r2) := by first | (rw [hy134]; with_reducible exact H) | (have H2_ := (Option.bind_some _ _).symm.trans H; rw [hy134]; with_reducible exact H2_) | (have H2_ := (Option.bind_some _ _).symm.trans H; with_reducible exact H2_) | with_reducible exact H | (rw [hy134]; exact H) | exact H
            have Ny134 := sd hy134; clear hy134; simp only [Option.some.injEq, Prod.mk.injEq] at H; obtain ⟨rfl, rfl⟩ := H
            go_wp2_with (first | ((with_reducible refine gate_dst (N := 102) rfl ?_); refine Kd.R_lit (Kd.int .i64) _ 3 ?hg (N := 102) ?hd (xs := ([] : List Int)) (inner := []) (ok := fun _ => True) (okp := fun _ => True) ?hr ?hp (fun _ hk => hk) trivial (Below.refl _ _) (Nat.le_refl _) (by simp) ?_; (case hd => rfl); (case hg => rfl); (case hr => go_simp <;> rfl); (case hp => exact (Reps.none _ _)); intro v135 w38 ho39 hb hg_ hnew_; clear hg_ hnew_; (first | rw [← Ny134.out] at ho39 | (simp only [Int.reduceToNat] at ho39; rw [← Ny134.out] at ho39)); have HO136 := sd (Kd.R_lower (Kd.R_new' ho39 (Kd.R_lt (rE HO_4.out))) (bZ (bE HB.out))); replace HO_4 := sd (Kd.R_elder' (rE HO_4.out) (Kd.R_base ho39) hb); replace HB := sd (bT (bE HB.out) hb); clear hb ho39))
            go_ret2
            exact ⟨_, by first | rfl | (simp [*] <;> rfl), by (with_reducible repeat (first | apply rA | apply rN | apply r1)); exact Kd.R_mono HO136.out (fun _ hk => trivial), bE HB.out⟩
           ·rw [if_neg c37] at H; have c37b0 : decide (x6_3 < x8_6) = false := decide_eq_false c37; clear c37
            by_cases c40 : x6_3 > 1114111
            ·rw [if_pos c40] at H; have c40b0 : decide (1114111 < x6_3) = true := decide_eq_true c40; clear c40; obtain ⟨y137, hy137⟩ : ∃ y_ : List Int, y_ = (([] : List Int)) := ⟨_, rfl⟩; replace H : (some (y137, false)) = some (r1, r2) := by first | (rw [hy137]; with_reducible exact H) | (have H2_ := (Option.bind_some _ _).symm.trans H; rw [hy137]; with_reducible exact H2_) | (have H2_ := (Option.bind_some _ _).symm.trans H; with_reducible exact H2_) | with_reducible exact H | (rw [hy137]; exact H) | exact H
             have Ny137 := sd hy137; clear hy137; simp only [Option.some.injEq, Prod.mk.injEq] at H; obtain ⟨rfl, rfl⟩ := H
             go_wp2_with (first | ((with_reducible refine gate_dst (N := 102) rfl ?_); refine Kd.R_lit (Kd.int .i64) _ 3 ?hg (N := 102) ?hd (xs := ([] : List Int)) (inner := []) (ok := fun _ => True) (okp := fun _ => True) ?hr ?hp (fun _ hk => hk) trivial (Below.refl _ _) (Nat.le_refl _) (by simp) ?_; (case hd => rfl); (case hg => rfl); (case hr => go_simp <;> rfl); (case hp => exact (Reps.none _ _)); intro v138 w41 ho42 hb hg_ hnew_; clear hg_ hnew_; (first | rw [← Ny137.out] at ho42 | (simp only [Int.reduceToNat] at ho42; rw [← Ny137.out] at ho42)); have HO139 := sd (Kd.R_lower (Kd.R_new' ho42 (Kd.R_lt (rE HO_4.out))) (bZ (bE HB.out))); replace HO_4 := sd (Kd.R_elder' (rE HO_4.out) (Kd.R_base ho42) hb); replace HB := sd (bT (bE HB.out) hb); clear hb ho42))
             go_ret2
             exact ⟨_, by first | rfl | (simp [*] <;> rfl), by (with_reducible repeat (first | apply rA | apply rN | apply r1)); exact Kd.R_mono HO139.out (fun _ hk => trivial), bE HB.out⟩
            ·rw [if_neg c40] at H; have c40b0 : decide (1114111 < x6_3) = false := decide_eq_false c40; clear c40
             by_cases c43 : x6_3 ≥ 55296
             ·rw [if_pos c43] at H; have c43b0 : decide (55296 ≤ x6_3) = true := decide_eq_true c43; clear c43
              by_cases c44 : x6_3 ≤ 57343
              ·rw [if_pos c44] at H; have c44b0 : decide (x6_3 ≤ 57343) = true := decide_eq_true c44; clear c44; obtain ⟨y140, hy140⟩ : ∃ y_ : List Int, y_ = (([] : List Int)) := ⟨_, rfl⟩; replace H : (some (y140, false)) = some (r1, r2) := by first | (rw [hy140]; with_reducible exact H) | (have H2_ := (Option.bind_some _ _).symm.trans H; rw [hy140]; with_reducible exact H2_) | (have H2_ := (Option.bind_some _ _).symm.trans H; with_reducible exact H2_) | with_reducible exact H | (rw [hy140]; exact H) | exact H
               have Ny140 := sd hy140; clear hy140; simp only [Option.some.injEq, Prod.mk.injEq] at H; obtain ⟨rfl, rfl⟩ := H
               go_wp2_with (first | ((with_reducible refine gate_dst (N := 102) rfl ?_); refine Kd.R_lit (Kd.int .i64) _ 3 ?hg (N := 102) ?hd (xs := ([] : List Int)) (inner := []) (ok := fun _ => True) (okp := fun _ => True) ?hr ?hp (fun _ hk => hk) trivial (Below.refl _ _) (Nat.le_refl _) (by simp) ?_; (case hd => rfl); (case hg => rfl); (case hr => go_simp <;> rfl); (case hp => exact (Reps.none _ _)); intro v141 w45 ho46 hb hg_ hnew_; clear hg_ hnew_; (first | rw [← Ny140.out] at ho46 | (simp only [Int.reduceToNat] at ho46; rw [← Ny140.out] at ho46)); have HO142 := sd (Kd.R_lower (Kd.R_new' ho46 (Kd.R_lt (rE HO_4.out))) (bZ (bE HB.out))); replace HO_4 := sd (Kd.R_elder' (rE HO_4.out) (Kd.R_base ho46) hb); replace HB := sd (bT (bE HB.out) hb); clear hb ho46))
               go_ret2
               exact ⟨_, by first | rfl | (simp [*] <;> rfl), by (with_reducible repeat (first | apply rA | apply rN | apply r1)); exact Kd.R_mono HO142.out (fun _ hk => trivial), bE HB.out⟩
              ·rw [if_neg c44] at H; have c44b0 : decide (x6_3 ≤ 57343) = false := decide_eq_false c44; clear c44
               by_cases c47 : x4_6.length < 17592186044416
               ·rw [if_pos c47] at H; have LMc47 := sd c47; clear c47; obtain ⟨y143, hy143⟩ : ∃ y_ : List Int, y_ = (x4_6 ++ [x6_3]) := ⟨_, rfl⟩; replace H : (spec_l01Chars.l0 k3 a0 y143 (wrap64 (x5_6 + (wrap64 (x7_6 + 1))))) = some (r1, r2) := by first | (rw [hy143]; with_reducible exact H) | (have H2_ := (Option.bind_some _ _).symm.trans H; rw [hy143]; with_reducible exact H2_) | (have H2_ := (Option.bind_some _ _).symm.trans H; with_reducible exact H2_) | with_reducible exact H | (rw [hy143]; exact H) | exact H
                have Ny143 := sd hy143; clear hy143; have H' := sd H
                clear H
                go_wp2_with (first | ((with_reducible refine gate_builtin (b := .append) (xs := #[.tmp 103, .tmp 105]) rfl ?_); at_builtin; refine Kd.R_append (Kd.int .i64) (w0 := w) w.heap.size rfl (.tmp 103) (.tmp 105) 76 3 (.int .i64 0) 8 rfl Tryz.underlying76 info3 rfl (by decide) (by omega) u4 x4_6 x6_3 [.int .i64 x6_3] (fun _ => True) (fun _ => False) rfl rfl ?aP (fun _ hk => hk.elim) ?aF ?aO ?aB ?aS ?aL ?_; (case aP => exact rfl); (case aB => exact (bE HB.out)); (case aF => exact (fun _ _ => trivial)); (case aO => exact (rE HO_4.out)); (case aS => exact (bZ (bE HB.out))); (case aL => have := LMc47.out; omega); intro v144 w48 ho hb hg hat; rw [← Ny143.out] at ho; replace HB := sd (hb); have HO145 := sd (ho); clear HO_4; clear ho hb hg hat))
                go_roundg k3
                case measure => have := HK1.out; have := HJ6.out; have := HK3.out; omega
                case rel => exact ⟨(y143), (wrap64 (x5_6 + (wrap64 (x7_6 + 1)))), (by first | rfl | (simp [*]; done)), H', ⟨by have := HK1.out; have := HJ6.out; have := HK3.out; omega⟩, ⟨rE HO145.out⟩, ⟨bE HB.out⟩⟩
               ·rw [if_neg c47] at H; exact absurd H (by simp)
             ·rw [if_neg c43] at H; have c43b0 : decide (55296 ≤ x6_3) = false := decide_eq_false c43; clear c43
              by_cases c49 : x4_6.length < 17592186044416
              ·rw [if_pos c49] at H; have LMc49 := sd c49; clear c49; obtain ⟨y146, hy146⟩ : ∃ y_ : List Int, y_ = (x4_6 ++ [x6_3]) := ⟨_, rfl⟩; replace H : (spec_l01Chars.l0 k3 a0 y146 (wrap64 (x5_6 + (wrap64 (x7_6 + 1))))) = some (r1, r2) := by first | (rw [hy146]; with_reducible exact H) | (have H2_ := (Option.bind_some _ _).symm.trans H; rw [hy146]; with_reducible exact H2_) | (have H2_ := (Option.bind_some _ _).symm.trans H; with_reducible exact H2_) | with_reducible exact H | (rw [hy146]; exact H) | exact H
               have Ny146 := sd hy146; clear hy146; have H' := sd H
               clear H
               go_wp2_with (first | ((with_reducible refine gate_builtin (b := .append) (xs := #[.tmp 103, .tmp 105]) rfl ?_); at_builtin; refine Kd.R_append (Kd.int .i64) (w0 := w) w.heap.size rfl (.tmp 103) (.tmp 105) 76 3 (.int .i64 0) 8 rfl Tryz.underlying76 info3 rfl (by decide) (by omega) u4 x4_6 x6_3 [.int .i64 x6_3] (fun _ => True) (fun _ => False) rfl rfl ?aP (fun _ hk => hk.elim) ?aF ?aO ?aB ?aS ?aL ?_; (case aP => exact rfl); (case aB => exact (bE HB.out)); (case aF => exact (fun _ _ => trivial)); (case aO => exact (rE HO_4.out)); (case aS => exact (bZ (bE HB.out))); (case aL => have := LMc49.out; omega); intro v147 w50 ho hb hg hat; rw [← Ny146.out] at ho; replace HB := sd (hb); have HO148 := sd (ho); clear HO_4; clear ho hb hg hat))
               go_roundg k3
               case measure => have := HK1.out; have := HJ6.out; have := HK3.out; omega
               case rel => exact ⟨(y146), (wrap64 (x5_6 + (wrap64 (x7_6 + 1)))), (by first | rfl | (simp [*]; done)), H', ⟨by have := HK1.out; have := HJ6.out; have := HK3.out; omega⟩, ⟨rE HO148.out⟩, ⟨bE HB.out⟩⟩
              ·rw [if_neg c49] at H; exact absurd H (by simp)
    ·rw [if_neg c5] at H; exact absurd H (by simp)
   ·rw [if_neg c4] at H; have c4b0 : decide (x5_1 < (a0.size : Int)) = false := decide_eq_false c4; clear c4; simp only [Option.some.injEq, Prod.mk.injEq] at H; obtain ⟨rfl, rfl⟩ := H; go_wp2
    go_ret2
    exact ⟨_, by first | rfl | (simp [*] <;> rfl), by (with_reducible repeat (first | apply rA | apply rN | apply r1)); exact HO_4.out, bE HB.out⟩

end Go.Proofs.YtackifpnpkbddaaGreatDoor.QFnLexed
