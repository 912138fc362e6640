-- Laid by a program of the session's own (wip/tools/mp.py); not the kit's print.
import Derived.Test.YtackifpnpkbddaaGreatDoorQFnLexedx0
import Derived.Test.YtackifpnpkbddaaGreatDoorQFnLexedx6
import Derived.Test.YtackifpnpkbddaaGreatDoorQFnLexedx7
namespace Go.Proofs.YtackifpnpkbddaaGreatDoor.QFnLexed
open Go.RowKit Go.Proofs.YtackifpnpkbddaaGreatDoorW.PrintWords Go.Proofs.YtackifpnpkbddaaGreatDoorW.PrintLast Go.Proofs.YtackifpnpkbddaaGreatDoorW.PrintMore Go.Proofs.YtackifpnpkbddaaGreatDoorScan
attribute [local go_sem] max2_int min2_int max_two min_two max_three min_three max_four min_four   -- for this text's walks alone
set_option linter.unusedVariables false
set_option linter.unusedSimpArgs false

/-! ### spec_DrawUnlex: function 10 -/
mutual
def spec_DrawUnlex.j0 : Nat → Int → List (S35) → Bool → List Int → Int → Int → Int → Option ((List (S35)))
 | 0, _, _, _, _, _, _, _ => none
 | k + 1, x4, x5, x21, x339000, x339001, x339002, x339003 => if x21 = true then ((spec_l01Cur_pick.f x339000 x339001 x339002 x339003 (x5.length : Int)).bind fun bt349 => ((spec_l01Cur_pick.f x339000 bt349.2.1 bt349.2.2.1 bt349.2.2.2 3).bind fun bt353 => (if bt353.1 = 0 then ((spec_l01Cur_pick.f x339000 bt353.2.1 bt353.2.2.1 bt353.2.2.2 9).bind fun bt357 => (if 0 ≤ bt349.1 then (if bt349.1 < (x5.length : Int) then (spec_DrawUnlex.j1 k x4 (x5.set (bt349.1 : Int).toNat (⟨wrap64 (bt357.1 - 1), (rd_T35 x5 bt349.1).f1, (rd_T35 x5 bt349.1).f2⟩ : S35)) x339000 bt357.2.1 bt357.2.2.1 bt357.2.2.2) else (none)) else (none))) else (if bt353.1 = 1 then (if 0 ≤ bt349.1 then (if bt349.1 < (x5.length : Int) then ((some (([(⟨#[65]⟩ : ByteArray), (⟨#[255]⟩ : ByteArray), (⟨#[32]⟩ : ByteArray), (⟨#[48]⟩ : ByteArray), (⟨#[34]⟩ : ByteArray)] : List ByteArray) : List ByteArray)).bind fun y363 => ((spec_l01Cur_pick.f x339000 bt353.2.1 bt353.2.2.1 bt353.2.2.2 5).bind fun bt366 => (if 0 ≤ bt366.1 then (if bt366.1 < (y363.length : Int) then (if ((rd_T35 x5 bt349.1).f1).size + (rdOf ByteArray.empty y363 bt366.1).size ≤ 9223372036854775807 then (spec_DrawUnlex.j1 k x4 (x5.set (bt349.1 : Int).toNat (⟨(rd_T35 x5 bt349.1).f0, ((rd_T35 x5 bt349.1).f1) ++ (rdOf ByteArray.empty y363 bt366.1), (rd_T35 x5 bt349.1).f2⟩ : S35)) x339000 bt366.2.1 bt366.2.2.1 bt366.2.2.2) else (none)) else (none)) else (none)))) else (none)) else (none)) else (if bt353.1 = 2 then ((some (([(⟨#[]⟩ : ByteArray), (⟨#[48, 48, 55]⟩ : ByteArray), (⟨#[33, 61]⟩ : ByteArray), (⟨#[49, 46, 53, 48, 48, 48, 48]⟩ : ByteArray), (⟨#[45, 49]⟩ : ByteArray)] : List ByteArray) : List ByteArray)).bind fun y372 => ((spec_l01Cur_pick.f x339000 bt353.2.1 bt353.2.2.1 bt353.2.2.2 5).bind fun bt375 => (if 0 ≤ bt375.1 then (if bt375.1 < (y372.length : Int) then (if 0 ≤ bt349.1 then (if bt349.1 < (x5.length : Int) then (spec_DrawUnlex.j1 k x4 (x5.set (bt349.1 : Int).toNat (⟨(rd_T35 x5 bt349.1).f0, rdOf ByteArray.empty y372 bt375.1, (rd_T35 x5 bt349.1).f2⟩ : S35)) x339000 bt375.2.1 bt375.2.2.1 bt375.2.2.2) else (none)) else (none)) else (none)) else (none)))) else (spec_DrawUnlex.j1 k x4 x5 x339000 bt353.2.1 bt353.2.2.1 bt353.2.2.2)))))) else (spec_DrawUnlex.j1 k x4 x5 x339000 x339001 x339002 x339003)
def spec_DrawUnlex.j1 : Nat → Int → List (S35) → List Int → Int → Int → Int → Option ((List (S35)))
 | 0, _, _, _, _, _, _ => none
 | k + 1, x4, x5, x339000, x339001, x339002, x339003 => if x4 = 2 then ((spec_l01Cur_pick.f x339000 x339001 x339002 x339003 2).bind fun bt381 => (if bt381.1 = 0 then (spec_DrawUnlex.l0 k x5 x339000 bt381.2.1 bt381.2.2.1 bt381.2.2.2) else (spec_DrawUnlex.l1 k x5 0 x339000 bt381.2.1 bt381.2.2.1 bt381.2.2.2))) else (some x5)
def spec_DrawUnlex.l0 : Nat → List (S35) → List Int → Int → Int → Int → Option ((List (S35)))
 | 0, _, _, _, _, _ => none
 | k + 1, x5, x339000, x339001, x339002, x339003 => (spec_l01Cur_pick.f x339000 x339001 x339002 x339003 2).bind fun bt385 => (if (x5.length : Int) < (wrap64 (2000 + bt385.1)) then (if x5.length < 4398046511104 then (spec_DrawUnlex.l0 k (x5 ++ [(⟨6, (⟨#[59]⟩ : ByteArray), 0⟩ : S35)]) x339000 bt385.2.1 bt385.2.2.1 bt385.2.2.2) else (none)) else (some x5))
def spec_DrawUnlex.l1 : Nat → List (S35) → Int → List Int → Int → Int → Int → Option ((List (S35)))
 | 0, _, _, _, _, _, _ => none
 | k + 1, x5, x7, x339000, x339001, x339002, x339003 => if x7 < 40 then ((spec_l01Cur_pick.f x339000 x339001 x339002 x339003 20).bind fun bt392 => ((spec_l01Times.f k (⟨#[120]⟩ : ByteArray) (wrap64 (190 + bt392.1))).bind fun t396 => (if x5.length < 4398046511104 then (spec_DrawUnlex.l1 k (x5 ++ [(⟨5, t396, 0⟩ : S35)]) (wrap64 (x7 + 1)) x339000 bt392.2.1 bt392.2.2.1 bt392.2.2.2) else (none)))) else (some x5)
end
def spec_DrawUnlex.f (k : Nat) (l0 : List Int) : Option ((List (S35))) := (spec_l01Cur_mode.f l0 0 0 0).bind fun bt339 => ((spec_l02DrawList.f k l0 bt339.2.1 bt339.2.2.1 bt339.2.2.2).bind fun bt343 => (if bt339.1 = 1 then (spec_DrawUnlex.j0 k bt339.1 bt343.1 (decide ((bt343.1.length : Int) > 0)) l0 bt343.2.1 bt343.2.2.1 bt343.2.2.2) else (spec_DrawUnlex.j0 k bt339.1 bt343.1 false l0 bt343.2.1 bt343.2.2.1 bt343.2.2.2)))
theorem spec_DrawUnlex.mono_l : ∀ k, (∀ y0 y1 y2 y3 y4 y5 y6, LeO (spec_DrawUnlex.j0 k y0 y1 y2 y3 y4 y5 y6) (spec_DrawUnlex.j0 (k + 1) y0 y1 y2 y3 y4 y5 y6)) ∧ (∀ y0 y1 y2 y3 y4 y5, LeO (spec_DrawUnlex.j1 k y0 y1 y2 y3 y4 y5) (spec_DrawUnlex.j1 (k + 1) y0 y1 y2 y3 y4 y5)) ∧ (∀ y0 y1 y2 y3 y4, LeO (spec_DrawUnlex.l0 k y0 y1 y2 y3 y4) (spec_DrawUnlex.l0 (k + 1) y0 y1 y2 y3 y4)) ∧ (∀ y0 y1 y2 y3 y4 y5, LeO (spec_DrawUnlex.l1 k y0 y1 y2 y3 y4 y5) (spec_DrawUnlex.l1 (k + 1) y0 y1 y2 y3 y4 y5))
 | 0 => ⟨fun _ _ _ _ _ _ _ r h => by simp [spec_DrawUnlex.j0] at h, fun _ _ _ _ _ _ r h => by simp [spec_DrawUnlex.j1] at h, fun _ _ _ _ _ r h => by simp [spec_DrawUnlex.l0] at h, fun _ _ _ _ _ _ r h => by simp [spec_DrawUnlex.l1] at h⟩
 | k + 1 => by
  obtain ⟨ih0, ih1, ih2, ih3⟩ := spec_DrawUnlex.mono_l k
  refine ⟨?_, ?_, ?_, ?_⟩
  ·intro y0 y1 y2 y3 y4 y5 y6
   unfold spec_DrawUnlex.j0
   repeat' first
   | (with_reducible exact ih0 _ _ _ _ _ _ _)
   | (with_reducible exact ih1 _ _ _ _ _ _)
   | (with_reducible exact ih2 _ _ _ _ _)
   | (with_reducible exact ih3 _ _ _ _ _ _)
   | (with_reducible exact spec_l01Times.mono _ _ _)
   | (with_reducible exact spec_l02DrawList.mono _ _ _ _ _)
   | (with_reducible exact LeO.refl _)
   | (with_reducible exact LeO.none _)
   | (with_reducible refine LeO.ite ?_ ?_)
   | (with_reducible refine LeO.bind ?_ (fun _ => ?_))
   | exact ih0 _ _ _ _ _ _ _
   | exact ih1 _ _ _ _ _ _
   | exact ih2 _ _ _ _ _
   | exact ih3 _ _ _ _ _ _
   | exact spec_l01Times.mono _ _ _
   | exact spec_l02DrawList.mono _ _ _ _ _
   | exact LeO.none _
   | refine LeO.ite ?_ ?_
   | refine LeO.bind ?_ (fun _ => ?_)
  ·intro y0 y1 y2 y3 y4 y5
   unfold spec_DrawUnlex.j1
   repeat' first
   | (with_reducible exact ih0 _ _ _ _ _ _ _)
   | (with_reducible exact ih1 _ _ _ _ _ _)
   | (with_reducible exact ih2 _ _ _ _ _)
   | (with_reducible exact ih3 _ _ _ _ _ _)
   | (with_reducible exact spec_l01Times.mono _ _ _)
   | (with_reducible exact spec_l02DrawList.mono _ _ _ _ _)
   | (with_reducible exact LeO.refl _)
   | (with_reducible exact LeO.none _)
   | (with_reducible refine LeO.ite ?_ ?_)
   | (with_reducible refine LeO.bind ?_ (fun _ => ?_))
   | exact ih0 _ _ _ _ _ _ _
   | exact ih1 _ _ _ _ _ _
   | exact ih2 _ _ _ _ _
   | exact ih3 _ _ _ _ _ _
   | exact spec_l01Times.mono _ _ _
   | exact spec_l02DrawList.mono _ _ _ _ _
   | exact LeO.none _
   | refine LeO.ite ?_ ?_
   | refine LeO.bind ?_ (fun _ => ?_)
  ·intro y0 y1 y2 y3 y4
   unfold spec_DrawUnlex.l0
   repeat' first
   | (with_reducible exact ih0 _ _ _ _ _ _ _)
   | (with_reducible exact ih1 _ _ _ _ _ _)
   | (with_reducible exact ih2 _ _ _ _ _)
   | (with_reducible exact ih3 _ _ _ _ _ _)
   | (with_reducible exact spec_l01Times.mono _ _ _)
   | (with_reducible exact spec_l02DrawList.mono _ _ _ _ _)
   | (with_reducible exact LeO.refl _)
   | (with_reducible exact LeO.none _)
   | (with_reducible refine LeO.ite ?_ ?_)
   | (with_reducible refine LeO.bind ?_ (fun _ => ?_))
   | exact ih0 _ _ _ _ _ _ _
   | exact ih1 _ _ _ _ _ _
   | exact ih2 _ _ _ _ _
   | exact ih3 _ _ _ _ _ _
   | exact spec_l01Times.mono _ _ _
   | exact spec_l02DrawList.mono _ _ _ _ _
   | exact LeO.none _
   | refine LeO.ite ?_ ?_
   | refine LeO.bind ?_ (fun _ => ?_)
  ·intro y0 y1 y2 y3 y4 y5
   unfold spec_DrawUnlex.l1
   repeat' first
   | (with_reducible exact ih0 _ _ _ _ _ _ _)
   | (with_reducible exact ih1 _ _ _ _ _ _)
   | (with_reducible exact ih2 _ _ _ _ _)
   | (with_reducible exact ih3 _ _ _ _ _ _)
   | (with_reducible exact spec_l01Times.mono _ _ _)
   | (with_reducible exact spec_l02DrawList.mono _ _ _ _ _)
   | (with_reducible exact LeO.refl _)
   | (with_reducible exact LeO.none _)
   | (with_reducible refine LeO.ite ?_ ?_)
   | (with_reducible refine LeO.bind ?_ (fun _ => ?_))
   | exact ih0 _ _ _ _ _ _ _
   | exact ih1 _ _ _ _ _ _
   | exact ih2 _ _ _ _ _
   | exact ih3 _ _ _ _ _ _
   | exact spec_l01Times.mono _ _ _
   | exact spec_l02DrawList.mono _ _ _ _ _
   | exact LeO.none _
   | refine LeO.ite ?_ ?_
   | refine LeO.bind ?_ (fun _ => ?_)
theorem spec_DrawUnlex.mono : ∀ a0 k, LeO (spec_DrawUnlex.f k a0) (spec_DrawUnlex.f (k + 1) a0) := by
 intro a0 k
 obtain ⟨ih0, ih1, ih2, ih3⟩ := spec_DrawUnlex.mono_l k
 unfold spec_DrawUnlex.f
 repeat' first
   | (with_reducible exact ih0 _ _ _ _ _ _ _)
   | (with_reducible exact ih1 _ _ _ _ _ _)
   | (with_reducible exact ih2 _ _ _ _ _)
   | (with_reducible exact ih3 _ _ _ _ _ _)
   | (with_reducible exact spec_l01Times.mono _ _ _)
   | (with_reducible exact spec_l02DrawList.mono _ _ _ _ _)
   | (with_reducible exact LeO.refl _)
   | (with_reducible exact LeO.none _)
   | (with_reducible refine LeO.ite ?_ ?_)
   | (with_reducible refine LeO.bind ?_ (fun _ => ?_))
   | exact ih0 _ _ _ _ _ _ _
   | exact ih1 _ _ _ _ _ _
   | exact ih2 _ _ _ _ _
   | exact ih3 _ _ _ _ _ _
   | exact spec_l01Times.mono _ _ _
   | exact spec_l02DrawList.mono _ _ _ _ _
   | exact LeO.none _
   | refine LeO.ite ?_ ?_
   | refine LeO.bind ?_ (fun _ => ?_)
def spec_DrawUnlex.T10 : Bool × List (List Nat × List Nat) := (true, [([], []), ([], []), ([], []), ([], []), ([2, 3], [2, 3]), ([4], [4]), ([5], [5]), ([], []), ([], []), ([8], [8]), ([7, 9], [7, 9]), ([10], [10]), ([6, 11], [6, 11]), ([0, 1, 0, 1, 2, 3, 4, 5, 6, 7, 8, 9, 10, 11, 12], [0, 1]), ([13, 0, 1, 2, 3, 4, 5, 6, 7, 8, 9, 10, 11, 12], [13]), ([14, 12, 9, 0, 1, 2, 3, 4, 5, 6, 7, 8, 9, 10, 11, 12], [12, 14])])
def spec_DrawUnlex.B10 : List Nat := [0, 0, 0, 0, 12, 28, 60, 0, 0, 256, 896, 1920, 4092, 8191, 16383, 32767]
theorem spec_DrawUnlex.tab10 : rtab .any (opsOf Tryz.f10 10) = spec_DrawUnlex.T10 := by kernel_rfl
theorem spec_DrawUnlex.bits10 : waitsOk spec_DrawUnlex.T10.2 spec_DrawUnlex.B10 = true := by kernel_rfl
set_option maxHeartbeats 8000000 in
set_option maxRecDepth 100000 in
theorem spec_DrawUnlex.calls (k : Nat) (A0 : Option Addr) (c0 : Nat) (l0 : List Int) (r : List (S35)) (w : World) (hr0 : Kd.C (Kd.int .u8) w A0 l0.length l0) (hc0 : l0.length ≤ c0) (h : spec_DrawUnlex.f k l0 = some r) :
  Calls Tryz.prog 10 #[.slice A0 l0.length c0] w fun e w' => ∃ v0_ : Value, e = .returned (v0_) ∧ Kd.R k35 35 w' w.heap.size (fun _ => True) v0_ r ∧ Below w.heap.size w w' := by
 have hu47 := Tryz.underlying47; have hu35 := Tryz.underlying35; have HR0 := sd hr0; have HC0 := sd hc0; clear hr0 hc0; have HB := sd (Below.refl w.heap.size w); have H : ((spec_l01Cur_mode.f l0 0 0 0).bind fun bt339 => ((spec_l02DrawList.f k l0 bt339.2.1 bt339.2.2.1 bt339.2.2.2).bind fun bt343 => (if bt339.1 = 1 then (spec_DrawUnlex.j0 k bt339.1 bt343.1 (decide ((bt343.1.length : Int) > 0)) l0 bt343.2.1 bt343.2.2.1 bt343.2.2.2) else (spec_DrawUnlex.j0 k bt339.1 bt343.1 false l0 bt343.2.1 bt343.2.2.1 bt343.2.2.2)))) = some r := h; clear h; replace H := Option.bind_eq_some_iff.mp H; obtain ⟨⟨t339, t340, t341, t342⟩, A20, H⟩ := H; replace H : ((spec_l02DrawList.f k l0 t340 t341 t342).bind fun bt343 => (if t339 = 1 then (spec_DrawUnlex.j0 k t339 bt343.1 (decide ((bt343.1.length : Int) > 0)) l0 bt343.2.1 bt343.2.2.1 bt343.2.2.2) else (spec_DrawUnlex.j0 k t339 bt343.1 false l0 bt343.2.1 bt343.2.2.1 bt343.2.2.2))) = some r := H; have A2 := sd A20; clear A20; replace H := Option.bind_eq_some_iff.mp H; obtain ⟨⟨t343, t346, t347, t348⟩, A30, H⟩ := H; replace H : (if t339 = 1 then (spec_DrawUnlex.j0 k t339 t343 (decide ((t343.length : Int) > 0)) l0 t346 t347 t348) else (spec_DrawUnlex.j0 k t339 t343 false l0 t346 t347 t348)) = some r := H; have A3 := sd A30; clear A30; have HC4 := sd H; clear H
 go_enter Tryz.func10, Tryz.ntmps10
 go_upto_region 4 with (first | ((with_reducible refine gate_dst (N := 10) rfl ?_); (try (refine gate_guard (by rfl) ?_; dsimp only)); refine box_event ?hg (N := 10) ?hd (cs := #[.slice A0 l0.length c0, .int .i64 0, .int .i64 0, .int .i64 0]) (t := 47) ?hr ?_; (case hd => rfl); (case hg => rfl); (case hr => go_simp <;> rfl); intro gb338 hg w5 hbox hb; have GW338 := sd ((by rw [hg]; exact (bZ (bE HB.out)) : w.heap.size ≤ gb338)); have GE338 := GW338; have HI338 := sd ((⟨_, _, hbox, by rw [hg]; exact (bZ (bE HB.out)), HR0.out⟩ : IsS47 w w5 gb338 l0 0 0 0)); have GI_ := sd (iG HI338.out); replace HB := sd (bT (bE HB.out) hb); clear hb hbox hg) | ((with_reducible refine gate_callee (f := 20) rfl ?_); refine goesL_ (some 12) rfl rfl Tryz.func20 (by kernel_rfl) rfl #[.pointer (some ⟨gb338, 0, none⟩)] rfl (by (try simp only [List.map_toArray, List.map_cons, List.map_nil]); first | done | rfl) ?_; (with_reducible refine (spec_l01Cur_mode.calls gb338 l0 0 0 0 t339 t340 t341 t342 w _ ?side1 ?side2 A2.out).mono ?_); (case side1 => exact iE HI338.out); (case side2 => exact bE HB.out); rintro e w6 ⟨rfl, hi, hb, hk⟩; refine ⟨_, rfl, ?_⟩; replace HB := sd (hb); replace HI338 := sd (hi); (try clear hb); (try clear hb2); (try clear hk); (try clear hi)) | ((with_reducible refine gate_callee (f := 21) rfl ?_); refine goesL_ (some 14) rfl rfl Tryz.func21 (by kernel_rfl) rfl #[.pointer (some ⟨gb338, 0, none⟩)] rfl (by (try simp only [List.map_toArray, List.map_cons, List.map_nil]); first | done | rfl) ?_; (with_reducible refine (spec_l02DrawList.calls k gb338 l0 t340 t341 t342 t343 t346 t347 t348 w _ ?side1 ?side2 A3.out).mono ?_); (case side1 => exact iE HI338.out); (case side2 => exact bE HB.out); rintro e w7 ⟨v344, rfl, ho0, hi, hb, hk⟩; refine ⟨_, rfl, ?_⟩; have HO345 := sd (Kd.R_lower ho0 (bZ (bE HB.out))); replace HB := sd (hb); replace HI338 := sd (hi); (try clear hb); (try clear hb2); (try clear hk); (try clear hi); (try clear ho0)))
 (try simp only [Act.put, List.setIfInBounds_toArray, List.set_cons_zero, List.set_cons_succ])
 go_cut [21] (fun v21 wc => ∃ (kq : Nat) (x21_3 : Bool), v21 = .bool x21_3 ∧ Aside0 (spec_DrawUnlex.j0 kq t339 t343 x21_3 l0 t346 t347 t348 = some r) ∧ Aside0 (kq ≤ k) ∧ Aside0 (Kd.R k35 35 wc w.heap.size (fun _ => True) v344 t343) ∧ Aside0 (IsS47 w wc gb338 l0 t346 t347 t348) ∧ Aside0 (Below w.heap.size w wc))
 case first =>
  have H := HC4.out; clear HC4
  by_cases c8 : t339 = 1
  ·rw [if_pos c8] at H; have c8b0 : (t339 == 1) = true := beq_iff_eq.mpr c8; have c8b1 : (t339 != 1) = false := bne_eq_false_iff_eq.mpr c8; clear c8
   (first | rw [c8b0] | (simp only [i64_w, i32_w]; rw [c8b0]) | skip)
   have H' := sd H
   clear H; obtain ⟨Ao9, co9, eo9⟩ := Kd.R_slice HO345.out; subst eo9; go_wp2
   go_meet
   case rel => exact ⟨_, (decide ((t343.length : Int) > 0)), (by first | rfl | (simp [*]; done)), H', ⟨by first | omega | exact Nat.le_refl _⟩, ⟨rE HO345.out⟩, ⟨iE HI338.out⟩, ⟨bE HB.out⟩⟩
  ·rw [if_neg c8] at H; have c8b0 : (t339 == 1) = false := beq_eq_false_iff_ne.mpr c8; have c8b1 : (t339 != 1) = true := bne_iff_ne.mpr c8
   (first | rw [c8b0] | (simp only [i64_w, i32_w]; rw [c8b0]) | skip)
   have H' := sd H
   clear H; go_wp2
   go_meet
   case rel => exact ⟨_, (false), (by first | rfl | (simp [*]; done)), H', ⟨by first | omega | exact Nat.le_refl _⟩, ⟨rE HO345.out⟩, ⟨iE HI338.out⟩, ⟨bE HB.out⟩⟩
 case rest =>
  clear HC4; (try clear c1); (try clear c2); (try clear p2); (try clear c8); (try clear c8b0); (try clear c8b1); obtain ⟨kq, x21_3, rfl, HA, HJ3, HO_5, HI338, HB⟩ := hcut; cases kq with
  | zero => exact absurd HA.out (by simp [spec_DrawUnlex.j0])
  | succ kj3 =>
   have H := HA.out; clear HA; simp only [spec_DrawUnlex.j0] at H; have HC10 := sd H; clear H
   go_upto_if 21 with (fail)
   go_cut [] (fun wc => ∃ (kq : Nat) (x5_9 : List (S35)) (x339001_9 : Int) (x339002_9 : Int) (x339003_9 : Int), Aside0 (spec_DrawUnlex.j1 kq t339 x5_9 l0 x339001_9 x339002_9 x339003_9 = some r) ∧ Aside0 (kq ≤ kj3) ∧ Aside0 (Kd.R k35 35 wc w.heap.size (fun _ => True) v344 x5_9) ∧ Aside0 (IsS47 w wc gb338 l0 x339001_9 x339002_9 x339003_9) ∧ Aside0 (Below w.heap.size w wc))
   case first =>
    have H := HC10.out; clear HC10
    by_cases c11 : x21_3 = true
    ·subst c11; have H1 : ((spec_l01Cur_pick.f l0 t346 t347 t348 (t343.length : Int)).bind fun bt349 => ((spec_l01Cur_pick.f l0 bt349.2.1 bt349.2.2.1 bt349.2.2.2 3).bind fun bt353 => (if bt353.1 = 0 then ((spec_l01Cur_pick.f l0 bt353.2.1 bt353.2.2.1 bt353.2.2.2 9).bind fun bt357 => (if 0 ≤ bt349.1 then (if bt349.1 < (t343.length : Int) then (spec_DrawUnlex.j1 kj3 t339 (t343.set (bt349.1 : Int).toNat (⟨wrap64 (bt357.1 - 1), (rd_T35 t343 bt349.1).f1, (rd_T35 t343 bt349.1).f2⟩ : S35)) l0 bt357.2.1 bt357.2.2.1 bt357.2.2.2) else (none)) else (none))) else (if bt353.1 = 1 then (if 0 ≤ bt349.1 then (if bt349.1 < (t343.length : Int) then ((some (([(⟨#[65]⟩ : ByteArray), (⟨#[255]⟩ : ByteArray), (⟨#[32]⟩ : ByteArray), (⟨#[48]⟩ : ByteArray), (⟨#[34]⟩ : ByteArray)] : List ByteArray) : List ByteArray)).bind fun y363 => ((spec_l01Cur_pick.f l0 bt353.2.1 bt353.2.2.1 bt353.2.2.2 5).bind fun bt366 => (if 0 ≤ bt366.1 then (if bt366.1 < (y363.length : Int) then (if ((rd_T35 t343 bt349.1).f1).size + (rdOf ByteArray.empty y363 bt366.1).size ≤ 9223372036854775807 then (spec_DrawUnlex.j1 kj3 t339 (t343.set (bt349.1 : Int).toNat (⟨(rd_T35 t343 bt349.1).f0, ((rd_T35 t343 bt349.1).f1) ++ (rdOf ByteArray.empty y363 bt366.1), (rd_T35 t343 bt349.1).f2⟩ : S35)) l0 bt366.2.1 bt366.2.2.1 bt366.2.2.2) else (none)) else (none)) else (none)))) else (none)) else (none)) else (if bt353.1 = 2 then ((some (([(⟨#[]⟩ : ByteArray), (⟨#[48, 48, 55]⟩ : ByteArray), (⟨#[33, 61]⟩ : ByteArray), (⟨#[49, 46, 53, 48, 48, 48, 48]⟩ : ByteArray), (⟨#[45, 49]⟩ : ByteArray)] : List ByteArray) : List ByteArray)).bind fun y372 => ((spec_l01Cur_pick.f l0 bt353.2.1 bt353.2.2.1 bt353.2.2.2 5).bind fun bt375 => (if 0 ≤ bt375.1 then (if bt375.1 < (y372.length : Int) then (if 0 ≤ bt349.1 then (if bt349.1 < (t343.length : Int) then (spec_DrawUnlex.j1 kj3 t339 (t343.set (bt349.1 : Int).toNat (⟨(rd_T35 t343 bt349.1).f0, rdOf ByteArray.empty y372 bt375.1, (rd_T35 t343 bt349.1).f2⟩ : S35)) l0 bt375.2.1 bt375.2.2.1 bt375.2.2.2) else (none)) else (none)) else (none)) else (none)))) else (spec_DrawUnlex.j1 kj3 t339 t343 l0 bt353.2.1 bt353.2.2.1 bt353.2.2.2)))))) = some r := by rw [if_pos rfl] at H; exact H
     clear H; have H := H1; clear H1; replace H := Option.bind_eq_some_iff.mp H; obtain ⟨⟨t349, t350, t351, t352⟩, A120, H⟩ := H; replace H : ((spec_l01Cur_pick.f l0 t350 t351 t352 3).bind fun bt353 => (if bt353.1 = 0 then ((spec_l01Cur_pick.f l0 bt353.2.1 bt353.2.2.1 bt353.2.2.2 9).bind fun bt357 => (if 0 ≤ t349 then (if t349 < (t343.length : Int) then (spec_DrawUnlex.j1 kj3 t339 (t343.set (t349 : Int).toNat (⟨wrap64 (bt357.1 - 1), (rd_T35 t343 t349).f1, (rd_T35 t343 t349).f2⟩ : S35)) l0 bt357.2.1 bt357.2.2.1 bt357.2.2.2) else (none)) else (none))) else (if bt353.1 = 1 then (if 0 ≤ t349 then (if t349 < (t343.length : Int) then ((some (([(⟨#[65]⟩ : ByteArray), (⟨#[255]⟩ : ByteArray), (⟨#[32]⟩ : ByteArray), (⟨#[48]⟩ : ByteArray), (⟨#[34]⟩ : ByteArray)] : List ByteArray) : List ByteArray)).bind fun y363 => ((spec_l01Cur_pick.f l0 bt353.2.1 bt353.2.2.1 bt353.2.2.2 5).bind fun bt366 => (if 0 ≤ bt366.1 then (if bt366.1 < (y363.length : Int) then (if ((rd_T35 t343 t349).f1).size + (rdOf ByteArray.empty y363 bt366.1).size ≤ 9223372036854775807 then (spec_DrawUnlex.j1 kj3 t339 (t343.set (t349 : Int).toNat (⟨(rd_T35 t343 t349).f0, ((rd_T35 t343 t349).f1) ++ (rdOf ByteArray.empty y363 bt366.1), (rd_T35 t343 t349).f2⟩ : S35)) l0 bt366.2.1 bt366.2.2.1 bt366.2.2.2) else (none)) else (none)) else (none)))) else (none)) else (none)) else (if bt353.1 = 2 then ((some (([(⟨#[]⟩ : ByteArray), (⟨#[48, 48, 55]⟩ : ByteArray), (⟨#[33, 61]⟩ : ByteArray), (⟨#[49, 46, 53, 48, 48, 48, 48]⟩ : ByteArray), (⟨#[45, 49]⟩ : ByteArray)] : List ByteArray) : List ByteArray)).bind fun y372 => ((spec_l01Cur_pick.f l0 bt353.2.1 bt353.2.2.1 bt353.2.2.2 5).bind fun bt375 => (if 0 ≤ bt375.1 then (if bt375.1 < (y372.length : Int) then (if 0 ≤ t349 then (if t349 < (t343.length : Int) then (spec_DrawUnlex.j1 kj3 t339 (t343.set (t349 : Int).toNat (⟨(rd_T35 t343 t349).f0, rdOf ByteArray.empty y372 bt375.1, (rd_T35 t343 t349).f2⟩ : S35)) l0 bt375.2.1 bt375.2.2.1 bt375.2.2.2) else (none)) else (none)) else (none)) else (none)))) else (spec_DrawUnlex.j1 kj3 t339 t343 l0 bt353.2.1 bt353.2.2.1 bt353.2.2.2))))) = some r := H; have A12 := sd A120; clear A120; replace H := Option.bind_eq_some_iff.mp H; obtain ⟨⟨t353, t354, t355, t356⟩, A130, H⟩ := H; replace H : (if t353 = 0 then ((spec_l01Cur_pick.f l0 t354 t355 t356 9).bind fun bt357 => (if 0 ≤ t349 then (if t349 < (t343.length : Int) then (spec_DrawUnlex.j1 kj3 t339 (t343.set (t349 : Int).toNat (⟨wrap64 (bt357.1 - 1), (rd_T35 t343 t349).f1, (rd_T35 t343 t349).f2⟩ : S35)) l0 bt357.2.1 bt357.2.2.1 bt357.2.2.2) else (none)) else (none))) else (if t353 = 1 then (if 0 ≤ t349 then (if t349 < (t343.length : Int) then ((some (([(⟨#[65]⟩ : ByteArray), (⟨#[255]⟩ : ByteArray), (⟨#[32]⟩ : ByteArray), (⟨#[48]⟩ : ByteArray), (⟨#[34]⟩ : ByteArray)] : List ByteArray) : List ByteArray)).bind fun y363 => ((spec_l01Cur_pick.f l0 t354 t355 t356 5).bind fun bt366 => (if 0 ≤ bt366.1 then (if bt366.1 < (y363.length : Int) then (if ((rd_T35 t343 t349).f1).size + (rdOf ByteArray.empty y363 bt366.1).size ≤ 9223372036854775807 then (spec_DrawUnlex.j1 kj3 t339 (t343.set (t349 : Int).toNat (⟨(rd_T35 t343 t349).f0, ((rd_T35 t343 t349).f1) ++ (rdOf ByteArray.empty y363 bt366.1), (rd_T35 t343 t349).f2⟩ : S35)) l0 bt366.2.1 bt366.2.2.1 bt366.2.2.2) else (none)) else (none)) else (none)))) else (none)) else (none)) else (if t353 = 2 then ((some (([(⟨#[]⟩ : ByteArray), (⟨#[48, 48, 55]⟩ : ByteArray), (⟨#[33, 61]⟩ : ByteArray), (⟨#[49, 46, 53, 48, 48, 48, 48]⟩ : ByteArray), (⟨#[45, 49]⟩ : ByteArray)] : List ByteArray) : List ByteArray)).bind fun y372 => ((spec_l01Cur_pick.f l0 t354 t355 t356 5).bind fun bt375 => (if 0 ≤ bt375.1 then (if bt375.1 < (y372.length : Int) then (if 0 ≤ t349 then (if t349 < (t343.length : Int) then (spec_DrawUnlex.j1 kj3 t339 (t343.set (t349 : Int).toNat (⟨(rd_T35 t343 t349).f0, rdOf ByteArray.empty y372 bt375.1, (rd_T35 t343 t349).f2⟩ : S35)) l0 bt375.2.1 bt375.2.2.1 bt375.2.2.2) else (none)) else (none)) else (none)) else (none)))) else (spec_DrawUnlex.j1 kj3 t339 t343 l0 t354 t355 t356)))) = some r := H; have A13 := sd A130; clear A130
     by_cases c14 : t353 = 0
     ·rw [if_pos c14] at H; have c14b0 : (t353 == 0) = true := beq_iff_eq.mpr c14; have c14b1 : (t353 != 0) = false := bne_eq_false_iff_eq.mpr c14; clear c14
      (first | rw [c14b0] | (simp only [i64_w, i32_w]; rw [c14b0]) | skip)
      replace H := Option.bind_eq_some_iff.mp H; obtain ⟨⟨t357, t358, t359, t360⟩, A150, H⟩ := H; replace H : (if 0 ≤ t349 then (if t349 < (t343.length : Int) then (spec_DrawUnlex.j1 kj3 t339 (t343.set (t349 : Int).toNat (⟨wrap64 (t357 - 1), (rd_T35 t343 t349).f1, (rd_T35 t343 t349).f2⟩ : S35)) l0 t358 t359 t360) else (none)) else (none)) = some r := H; have A15 := sd A150; clear A150
      by_cases c16 : 0 ≤ t349
      ·rw [if_pos c16] at H; have c16b0 : decide (0 ≤ t349) = true := decide_eq_true c16; clear c16
       by_cases c17 : t349 < (t343.length : Int)
       ·rw [if_pos c17] at H; have c17b0 : decide (t349 < (t343.length : Int)) = true := decide_eq_true c17; clear c17; obtain ⟨y361, hy361⟩ : ∃ y_ : List (S35), y_ = (t343.set (t349 : Int).toNat (⟨wrap64 (t357 - 1), (rd_T35 t343 t349).f1, (rd_T35 t343 t349).f2⟩ : S35)) := ⟨_, rfl⟩; replace H : (spec_DrawUnlex.j1 kj3 t339 y361 l0 t358 t359 t360) = some r := by first | (rw [hy361]; with_reducible exact H) | (have H2_ := (Option.bind_some _ _).symm.trans H; rw [hy361]; with_reducible exact H2_) | (have H2_ := (Option.bind_some _ _).symm.trans H; with_reducible exact H2_) | with_reducible exact H | (rw [hy361]; exact H) | exact H
        have Ny361 := sd hy361; clear hy361; have H' := sd H
        clear H; obtain ⟨Ao19, co19, eo19⟩ := Kd.R_slice HO_5.out; subst eo19
        go_wp2_with (first | ((with_reducible refine gate_callee (f := 22) rfl ?_); refine goesL_ (some 25) rfl rfl Tryz.func22 (by kernel_rfl) rfl #[.pointer (some ⟨gb338, 0, none⟩), .int .i64 (t343.length : Int)] rfl (by (try simp only [List.map_toArray, List.map_cons, List.map_nil]); first | done | rfl) ?_; (with_reducible refine (spec_l01Cur_pick.calls gb338 l0 t346 t347 t348 (t343.length : Int) t349 t350 t351 t352 w _ ?side1 ?side2 A12.out).mono ?_); (case side1 => exact iE HI338.out); (case side2 => exact bE HB.out); rintro e w20 ⟨rfl, hi, hb, hk⟩; refine ⟨_, rfl, ?_⟩; replace HO_5 := sd (Kd.R_mono (Kd.R_keep (IsS47.apart (show IsS47 w _ gb338 l0 t346 t347 t348 from iE HI338.out) (rE HO_5.out) (by decide)) hk (fun _ h => h.2)) (fun _ h => h.1)); replace HB := sd (hb); replace HI338 := sd (hi); (try clear hb); (try clear hb2); (try clear hk); (try clear hi)) | ((with_reducible refine gate_callee (f := 22) rfl ?_); refine goesL_ (some 27) rfl rfl Tryz.func22 (by kernel_rfl) rfl #[.pointer (some ⟨gb338, 0, none⟩), .int .i64 3] rfl (by (try simp only [List.map_toArray, List.map_cons, List.map_nil]); first | done | rfl) ?_; (with_reducible refine (spec_l01Cur_pick.calls gb338 l0 t350 t351 t352 3 t353 t354 t355 t356 w _ ?side1 ?side2 A13.out).mono ?_); (case side1 => exact iE HI338.out); (case side2 => exact bE HB.out); rintro e w21 ⟨rfl, hi, hb, hk⟩; refine ⟨_, rfl, ?_⟩; replace HO_5 := sd (Kd.R_mono (Kd.R_keep (IsS47.apart (show IsS47 w _ gb338 l0 t350 t351 t352 from iE HI338.out) (rE HO_5.out) (by decide)) hk (fun _ h => h.2)) (fun _ h => h.1)); replace HB := sd (hb); replace HI338 := sd (hi); (try clear hb); (try clear hb2); (try clear hk); (try clear hi)) | ((with_reducible refine gate_callee (f := 22) rfl ?_); refine goesL_ (some 33) rfl rfl Tryz.func22 (by kernel_rfl) rfl #[.pointer (some ⟨gb338, 0, none⟩), .int .i64 9] rfl (by (try simp only [List.map_toArray, List.map_cons, List.map_nil]); first | done | rfl) ?_; (with_reducible refine (spec_l01Cur_pick.calls gb338 l0 t354 t355 t356 9 t357 t358 t359 t360 w _ ?side1 ?side2 A15.out).mono ?_); (case side1 => exact iE HI338.out); (case side2 => exact bE HB.out); rintro e w22 ⟨rfl, hi, hb, hk⟩; refine ⟨_, rfl, ?_⟩; replace HO_5 := sd (Kd.R_mono (Kd.R_keep (IsS47.apart (show IsS47 w _ gb338 l0 t354 t355 t356 from iE HI338.out) (rE HO_5.out) (by decide)) hk (fun _ h => h.2)) (fun _ h => h.1)); replace HB := sd (hb); replace HI338 := sd (hi); (try clear hb); (try clear hb2); (try clear hk); (try clear hi); have p18 : 0 ≤ (t349 : Int) := of_decide_eq_true (by assumption); have q18 : (t349 : Int) < ((t343.length : Int) : Int) := of_decide_eq_true (by assumption); obtain ⟨go18, co18, eo18, gb18, gl18, cl18, HG18⟩ := Kd.R_form HO_5.out (by omega); (first | cases eo18 | (injection eo18 with ea_ en_ ec_; (first | subst ea_ | (injection ea_ with ea_; subst ea_)); subst ec_; clear en_)); have GB18 := sd gb18; have GG18 := sd HG18; clear gb18 gl18 HG18; obtain ⟨ce18, hcl18, hM18, hcc18, hfr18⟩ := Kd.R_elem HO_5.out z35 (t349 : Int) p18 q18; obtain rfl := k35_openM hM18; have hx18_0 : w22.cell? ⟨go18, (t349 : Int).toNat * 3, none⟩ = some (.int .i64 ((rd_T35 t343 t349).f0)) := hcc18 0 _ rfl; have hx18_1 : w22.cell? ⟨go18, (t349 : Int).toNat * 3 + 1, none⟩ = some (.string ((rd_T35 t343 t349).f1)) := hcc18 1 _ rfl; have hx18_2 : w22.cell? ⟨go18, (t349 : Int).toNat * 3 + 2, none⟩ = some (.int .i64 ((rd_T35 t343 t349).f2)) := hcc18 2 _ rfl; have hf18_0 : w22.frozen? ⟨go18, (t349 : Int).toNat * 3, none⟩ = false := hfr18 0; have hf18_1 : w22.frozen? ⟨go18, (t349 : Int).toNat * 3 + 1, none⟩ = false := hfr18 1; have hf18_2 : w22.frozen? ⟨go18, (t349 : Int).toNat * 3 + 2, none⟩ = false := hfr18 2; clear hcl18 hcc18 hfr18 hM18; replace p18 := eq_true p18; replace q18 := eq_true q18; have HX23 := sd (show Kd.R k35 35 w22 w.heap.size (fun _ => True) (.slice (some ⟨go18, 0, none⟩) t343.length co19) t343 from (rE HO_5.out)); obtain ⟨ce23, hcl23, hM23, hcc23, hfr23⟩ := Kd.R_elem HX23.out z35 (t349 : Int) (of_decide_eq_true (by assumption)) (by have h_ : (t349 : Int) < ((t343.length : Int) : Int) := of_decide_eq_true (by assumption); first | exact h_ | (have e_ := (Kd.R_reads' HO_5.out).1; omega) | simpa using h_); obtain rfl := k35_openM hM23; have HP23 := Kd.R_seg HX23.out (t349 : Int) (of_decide_eq_true (by assumption)) (by have h_ : (t349 : Int) < ((t343.length : Int) : Int) := of_decide_eq_true (by assumption); first | exact h_ | (have e_ := (Kd.R_reads' HO_5.out).1; omega) | simpa using h_) (seg := [.int .i64 (wrap64 (t357 - 1))]) (j := 0) hcl23 hcc23 (show 1 ≤ 3 from by decide) (x' := (⟨wrap64 (t357 - 1), (rd_T35 t343 t349).f1, (rd_T35 t343 t349).f2⟩ : S35)) (k35_mkM _ _ _ (⟨wrap64 (t357 - 1), (rd_T35 t343 t349).f1, (rd_T35 t343 t349).f2⟩ : S35) ) (fun _ hk => hk); have hx23_0 := hcc23 0 _ rfl; (try simp only [show (k35).sz = 3 from rfl, Nat.mul_one, Nat.add_zero] at hx23_0); have hf23_0 := hfr23 0; (try simp only [show (k35).sz = 3 from rfl, Nat.mul_one, Nat.add_zero] at hf23_0); clear hcl23 hcc23 hfr23 hM23) | ((with_reducible refine gate_store (t := 3) (p := 36) rfl ?_); refine store_event (t := 3) (p := 36) (v := ?vo_w24) (w1 := (w22.setCell ⟨go18, (t349 : Int).toNat * 3, none⟩ (.int .i64 (wrap64 (t357 - 1))))) ?hg ?ho ?hn ?hr ?_; (case ho => rfl); (case hg => rfl); (case hn => rfl); (case hr => go_simp <;> rfl); intro w24 hw; have hg : w22.grownBy w24 (some go18) := (by rw [hw]; exact HP23.2); have hp_ : Kd.R k35 35 w24 w.heap.size (fun _ => True) (.slice (some ⟨go18, 0, none⟩) t343.length co19) y361 := (by rw [hw, Ny361.out]; exact HP23.1); clear HP23; replace HI338 := sd (IsS47.grown (show IsS47 w _ gb338 l0 t358 t359 t360 from iE HI338.out) hg (IsS47.own_ne HI338.out HO_5.out (by decide))); replace HO_5 := sd (hp_); replace HB := sd ((by rw [hw]; exact bS (HB.out) GB18.out : Below w.heap.size w w24)); clear hg hw hp_))
        go_meet
        case rel => exact ⟨_, (y361), (t358), (t359), (t360), H', ⟨by have := HJ3.out; first | omega | exact Nat.le_refl _⟩, ⟨rE HO_5.out⟩, ⟨iE HI338.out⟩, ⟨bE HB.out⟩⟩
       ·rw [if_neg c17] at H; exact absurd H (by simp)
      ·rw [if_neg c16] at H; exact absurd H (by simp)
     ·rw [if_neg c14] at H; have c14b0 : (t353 == 0) = false := beq_eq_false_iff_ne.mpr c14; have c14b1 : (t353 != 0) = true := bne_iff_ne.mpr c14
      (first | rw [c14b0] | (simp only [i64_w, i32_w]; rw [c14b0]) | skip)
      by_cases c25 : t353 = 1
      ·rw [if_pos c25] at H; have c25b0 : (t353 == 1) = true := beq_iff_eq.mpr c25; have c25b1 : (t353 != 1) = false := bne_eq_false_iff_eq.mpr c25; clear c25
       by_cases c26 : 0 ≤ t349
       ·rw [if_pos c26] at H; have c26b0 : decide (0 ≤ t349) = true := decide_eq_true c26; clear c26
        by_cases c27 : t349 < (t343.length : Int)
        ·rw [if_pos c27] at H; have c27b0 : decide (t349 < (t343.length : Int)) = true := decide_eq_true c27; clear c27; obtain ⟨y363, hy363⟩ : ∃ y_ : List ByteArray, y_ = (([(⟨#[65]⟩ : ByteArray), (⟨#[255]⟩ : ByteArray), (⟨#[32]⟩ : ByteArray), (⟨#[48]⟩ : ByteArray), (⟨#[34]⟩ : ByteArray)] : List ByteArray)) := ⟨_, rfl⟩; replace H : ((spec_l01Cur_pick.f l0 t354 t355 t356 5).bind fun bt366 => (if 0 ≤ bt366.1 then (if bt366.1 < (y363.length : Int) then (if ((rd_T35 t343 t349).f1).size + (rdOf ByteArray.empty y363 bt366.1).size ≤ 9223372036854775807 then (spec_DrawUnlex.j1 kj3 t339 (t343.set (t349 : Int).toNat (⟨(rd_T35 t343 t349).f0, ((rd_T35 t343 t349).f1) ++ (rdOf ByteArray.empty y363 bt366.1), (rd_T35 t343 t349).f2⟩ : S35)) l0 bt366.2.1 bt366.2.2.1 bt366.2.2.2) else (none)) else (none)) else (none))) = some r := by first | (rw [hy363]; with_reducible exact H) | (have H2_ := (Option.bind_some _ _).symm.trans H; rw [hy363]; with_reducible exact H2_) | (have H2_ := (Option.bind_some _ _).symm.trans H; with_reducible exact H2_) | with_reducible exact H | (rw [hy363]; exact H) | exact H
         have Ny363 := sd hy363; clear hy363; replace H := Option.bind_eq_some_iff.mp H; obtain ⟨⟨t366, t367, t368, t369⟩, A280, H⟩ := H; replace H : (if 0 ≤ t366 then (if t366 < (y363.length : Int) then (if ((rd_T35 t343 t349).f1).size + (rdOf ByteArray.empty y363 t366).size ≤ 9223372036854775807 then (spec_DrawUnlex.j1 kj3 t339 (t343.set (t349 : Int).toNat (⟨(rd_T35 t343 t349).f0, ((rd_T35 t343 t349).f1) ++ (rdOf ByteArray.empty y363 t366), (rd_T35 t343 t349).f2⟩ : S35)) l0 t367 t368 t369) else (none)) else (none)) else (none)) = some r := H; have A28 := sd A280; clear A280
         by_cases c29 : 0 ≤ t366
         ·rw [if_pos c29] at H; have c29b0 : decide (0 ≤ t366) = true := decide_eq_true c29; clear c29
          by_cases c30 : t366 < (y363.length : Int)
          ·rw [if_pos c30] at H; have c30b0 : decide (t366 < (y363.length : Int)) = true := decide_eq_true c30; clear c30
           by_cases c31 : ((rd_T35 t343 t349).f1).size + (rdOf ByteArray.empty y363 t366).size ≤ 9223372036854775807
           ·rw [if_pos c31] at H; have c31b0 := eq_true c31; have c31b1 : decide (((rd_T35 t343 t349).f1).size + (rdOf ByteArray.empty y363 t366).size ≤ 9223372036854775807) = true := decide_eq_true c31
            try have c31b2 : (9223372036854775807 < ((rd_T35 t343 t349).f1).size + (rdOf ByteArray.empty y363 t366).size) = False := eq_false (Nat.not_lt.2 c31)
            obtain ⟨y371, hy371⟩ : ∃ y_ : List (S35), y_ = (t343.set (t349 : Int).toNat (⟨(rd_T35 t343 t349).f0, ((rd_T35 t343 t349).f1) ++ (rdOf ByteArray.empty y363 t366), (rd_T35 t343 t349).f2⟩ : S35)) := ⟨_, rfl⟩; replace H : (spec_DrawUnlex.j1 kj3 t339 y371 l0 t367 t368 t369) = some r := by first | (rw [hy371]; with_reducible exact H) | (have H2_ := (Option.bind_some _ _).symm.trans H; rw [hy371]; with_reducible exact H2_) | (have H2_ := (Option.bind_some _ _).symm.trans H; with_reducible exact H2_) | with_reducible exact H | (rw [hy371]; exact H) | exact H
            have Ny371 := sd hy371; clear hy371; have H' := sd H
            clear H; obtain ⟨Ao33, co33, eo33⟩ := Kd.R_slice HO_5.out; subst eo33
            try go_wp2_with (first | ((with_reducible refine gate_callee (f := 22) rfl ?_); refine goesL_ (some 25) rfl rfl Tryz.func22 (by kernel_rfl) rfl #[.pointer (some ⟨gb338, 0, none⟩), .int .i64 (t343.length : Int)] rfl (by (try simp only [List.map_toArray, List.map_cons, List.map_nil]); first | done | rfl) ?_; (with_reducible refine (spec_l01Cur_pick.calls gb338 l0 t346 t347 t348 (t343.length : Int) t349 t350 t351 t352 w _ ?side1 ?side2 A12.out).mono ?_); (case side1 => exact iE HI338.out); (case side2 => exact bE HB.out); rintro e w34 ⟨rfl, hi, hb, hk⟩; refine ⟨_, rfl, ?_⟩; replace HO_5 := sd (Kd.R_mono (Kd.R_keep (IsS47.apart (show IsS47 w _ gb338 l0 t346 t347 t348 from iE HI338.out) (rE HO_5.out) (by decide)) hk (fun _ h => h.2)) (fun _ h => h.1)); replace HB := sd (hb); replace HI338 := sd (hi); (try clear hb); (try clear hb2); (try clear hk); (try clear hi)) | ((with_reducible refine gate_callee (f := 22) rfl ?_); refine goesL_ (some 27) rfl rfl Tryz.func22 (by kernel_rfl) rfl #[.pointer (some ⟨gb338, 0, none⟩), .int .i64 3] rfl (by (try simp only [List.map_toArray, List.map_cons, List.map_nil]); first | done | rfl) ?_; (with_reducible refine (spec_l01Cur_pick.calls gb338 l0 t350 t351 t352 3 t353 t354 t355 t356 w _ ?side1 ?side2 A13.out).mono ?_); (case side1 => exact iE HI338.out); (case side2 => exact bE HB.out); rintro e w35 ⟨rfl, hi, hb, hk⟩; refine ⟨_, rfl, ?_⟩; replace HO_5 := sd (Kd.R_mono (Kd.R_keep (IsS47.apart (show IsS47 w _ gb338 l0 t350 t351 t352 from iE HI338.out) (rE HO_5.out) (by decide)) hk (fun _ h => h.2)) (fun _ h => h.1)); replace HB := sd (hb); replace HI338 := sd (hi); (try clear hb); (try clear hb2); (try clear hk); (try clear hi)))
            have pi370 : (0 ≤ (t366 : Int)) = True := eq_true (of_decide_eq_true (by assumption)); have qi370 : (t366 < (y363.length : Int)) = True := eq_true (of_decide_eq_true (by assumption)); have n0_ := sd (r1 HO_5.out); have n1_ := sd (i1 HI338.out); have n2_ := sd (b1 HB.out); clear HO_5; clear HI338; clear HB; have HO_5 := n0_; have HI338 := n1_; have HB := n2_; clear n0_ n1_ n2_; have p362 : 0 ≤ (t349 : Int) := of_decide_eq_true (by assumption); have q362 : t349 < (t343.length : Int) := of_decide_eq_true (by assumption); obtain ⟨ad362, e362, hx362_0, hx362_1, hx362_2⟩ := at_T35 (Kd.R_reads' HO_5.out).2.2 t349 p362 q362; cases e362; replace p362 := eq_true p362; replace q362 := eq_true q362
            refine start_ (n := 16) (S := fun w' => w'.cell? (ad362.add ((t349).toNat * 3)) = some (.int .i64 ((rd_T35 t343 t349).f0)) ∧ w'.cell? ⟨(ad362.add ((t349).toNat * 3)).block, (ad362.add ((t349).toNat * 3)).off + 1, none⟩ = some (.string ((rd_T35 t343 t349).f1)) ∧ w'.cell? ⟨(ad362.add ((t349).toNat * 3)).block, (ad362.add ((t349).toNat * 3)).off + 2, none⟩ = some (.int .i64 ((rd_T35 t343 t349).f2))) (ds := [15]) #[false, false, false, false, false, false, false, false, false, false, false, false, false, false, false, false] (by kernel_rfl) rfl rfl ⟨hx362_0, hx362_1, hx362_2⟩ (fun hHeld => ?_); refine with_tabW spec_DrawUnlex.tab10 spec_DrawUnlex.bits10 (fun HT_ HW_ => ?_)
            generalize w35.drew = w36 at HO_5 HI338 HB hx362_0 hx362_1 hx362_2 hHeld ⊢
            refine pure_ (i := 0) (N := some 39) (v := ?_) (a' := ?_) #[true, false, false, false, false, false, false, false, false, false, false, false, false, false, false, false] rfl rfl (any_of HT_.out (by kernel_rfl)) (fun _ _ _ h => h) (Or.inl ⟨by rfl, ?_⟩) ?_ ?_
            rotate_left
            ·intro w'
             go_simp
             with_reducible rfl
            rotate_left
            ·simp only [Act.put, List.setIfInBounds_toArray, List.set_cons_zero, List.set_cons_succ, i64_w, i32_w]
             rfl
            refine pure_ (i := 1) (N := some 40) (v := ?_) (a' := ?_) #[true, true, false, false, false, false, false, false, false, false, false, false, false, false, false, false] rfl rfl (any_of HT_.out (by kernel_rfl)) (fun _ _ _ h => h) (Or.inl ⟨by rfl, ?_⟩) ?_ ?_
            rotate_left
            ·intro w'
             go_simp
             with_reducible rfl
            rotate_left
            ·simp only [Act.put, List.setIfInBounds_toArray, List.set_cons_zero, List.set_cons_succ, i64_w, i32_w]
             rfl
            refine pure_ (i := 2) (N := some 41) (v := ?_) (a' := ?_) #[true, true, true, false, false, false, false, false, false, false, false, false, false, false, false, false] rfl rfl (any_of HT_.out (by kernel_rfl)) (fun _ _ _ h => h) (Or.inl ⟨by rfl, ?_⟩) ?_ ?_
            rotate_left
            ·intro w'
             go_simp
             with_reducible rfl
            rotate_left
            ·simp only [Act.put, List.setIfInBounds_toArray, List.set_cons_zero, List.set_cons_succ, i64_w, i32_w]
             rfl
            refine pure_ (i := 3) (N := some 42) (v := ?_) (a' := ?_) #[true, true, true, true, false, false, false, false, false, false, false, false, false, false, false, false] rfl rfl (any_of HT_.out (by kernel_rfl)) (fun _ _ _ h => h) (Or.inl ⟨by rfl, ?_⟩) ?_ ?_
            rotate_left
            ·intro w'
             go_simp
             with_reducible rfl
            rotate_left
            ·simp only [Act.put, List.setIfInBounds_toArray, List.set_cons_zero, List.set_cons_succ, i64_w, i32_w]
             rfl
            refine pure_ (i := 4) (N := some 43) (v := ?_) (a' := ?_) #[true, true, true, true, true, false, false, false, false, false, false, false, false, false, false, false] rfl rfl (any_of HT_.out (by kernel_rfl)) (fun _ _ _ h => h) (Or.inl ⟨by rfl, ?_⟩) ?_ ?_
            rotate_left
            ·intro w'
             go_simp
             with_reducible rfl
            rotate_left
            ·simp only [Act.put, List.setIfInBounds_toArray, List.set_cons_zero, List.set_cons_succ, i64_w, i32_w]
             rfl
            refine pure_ (i := 5) (N := some 44) (v := ?_) (a' := ?_) #[true, true, true, true, true, true, false, false, false, false, false, false, false, false, false, false] rfl rfl (any_of HT_.out (by kernel_rfl)) (fun _ _ _ h => h) (Or.inl ⟨by rfl, ?_⟩) ?_ ?_
            rotate_left
            ·intro w'
             go_simp
             with_reducible rfl
            rotate_left
            ·simp only [Act.put, List.setIfInBounds_toArray, List.set_cons_zero, List.set_cons_succ, i64_w, i32_w]
             rfl
            refine pure_ (i := 8) (N := some 47) (v := ?_) (a' := ?_) #[true, true, true, true, true, true, false, false, true, false, false, false, false, false, false, false] rfl rfl (any_of HT_.out (by kernel_rfl)) (fun _ _ _ h => h) (Or.inl ⟨by rfl, ?_⟩) ?_ ?_
            rotate_left
            ·intro w'
             go_simp
             with_reducible rfl
            rotate_left
            ·simp only [Act.put, List.setIfInBounds_toArray, List.set_cons_zero, List.set_cons_succ, i64_w, i32_w]
             rfl
            refine take_ (i := 6) (N := some 45) (v := ?_) (a' := ?_) #[true, true, true, true, true, true, true, false, true, false, false, false, false, false, false, false] rfl rfl (take_ofW HT_.out HW_.out (by kernel_rfl)) (fun _ _ _ h => h) (Or.inl ⟨by rfl, ?_⟩) hHeld ?_ ?_
            rotate_left
            ·rintro w' ⟨s0, s1, s2⟩
             go_simp
             with_reducible rfl
            rotate_left
            ·simp only [Act.put, List.setIfInBounds_toArray, List.set_cons_zero, List.set_cons_succ, i64_w, i32_w]
             rfl
            refine join_ (σ := Value × Addr) 6 #[true, true, true, true, true, true, true, true, true, true, false, false, false, false, false, false] (fun s_ => [(46, s_.1), (48, .int .i64 t366)]) (fun s_ w' => (w'.cell? (ad362.add ((t349).toNat * 3)) = some (.int .i64 ((rd_T35 t343 t349).f0)) ∧ w'.cell? ⟨(ad362.add ((t349).toNat * 3)).block, (ad362.add ((t349).toNat * 3)).off + 1, none⟩ = some (.string ((rd_T35 t343 t349).f1)) ∧ w'.cell? ⟨(ad362.add ((t349).toNat * 3)).block, (ad362.add ((t349).toNat * 3)).off + 2, none⟩ = some (.int .i64 ((rd_T35 t343 t349).f2))) ∧ (Kd.R Kd.string 9 w' w.heap.size (fun _ => True) s_.1 y363) ∧ (Kd.R k35 35 w' w.heap.size (fun _ => True) (.slice (some ad362) t343.length co33) t343) ∧ (∃ c_, (s_.1 : Value) = .slice (some s_.2) y363.length c_) ∧ (IsS47 w w' gb338 l0 t367 t368 t369) ∧ (Below w.heap.size w w')) ?_ ?_
            rotate_left
            ·intro hCont
             refine two_ (i := 7) (j := 9) (Ni := some 46) (Nj := some 48) #[true, true, true, true, true, true, true, true, true, false, false, false, false, false, false, false] #[true, true, true, true, true, true, true, false, true, true, false, false, false, false, false, false] rfl rfl rfl rfl (two_of HT_.out (by kernel_rfl)) (by decide) (by decide) (fun K hK => ?_) (fun K hK => ?_)
             ·skip
              refine Kd.R_lit_step Kd.string _ 9 ?hg (N := 46) ?hd (xs := ([(⟨#[65]⟩ : ByteArray), (⟨#[255]⟩ : ByteArray), (⟨#[32]⟩ : ByteArray), (⟨#[48]⟩ : ByteArray), (⟨#[34]⟩ : ByteArray)] : List ByteArray)) (inner := [.string (⟨#[65]⟩ : ByteArray), .string (⟨#[255]⟩ : ByteArray), .string (⟨#[32]⟩ : ByteArray), .string (⟨#[48]⟩ : ByteArray), .string (⟨#[34]⟩ : ByteArray)]) (ok := fun _ => True) (okp := fun _ => True) ?hr ?hp (fun _ hk => hk) trivial (Below.refl _ _) (Nat.le_refl _) (by simp) ?_; (case hd => rfl); (case hg => rfl); (case hr => go_simp <;> rfl); (case hp => exact (Reps.one (show Kd.M Kd.string _ _ _ (⟨#[65]⟩ : ByteArray) [.string (⟨#[65]⟩ : ByteArray)] from rfl) (Reps.one (show Kd.M Kd.string _ _ _ (⟨#[255]⟩ : ByteArray) [.string (⟨#[255]⟩ : ByteArray)] from rfl) (Reps.one (show Kd.M Kd.string _ _ _ (⟨#[32]⟩ : ByteArray) [.string (⟨#[32]⟩ : ByteArray)] from rfl) (Reps.one (show Kd.M Kd.string _ _ _ (⟨#[48]⟩ : ByteArray) [.string (⟨#[48]⟩ : ByteArray)] from rfl) (Reps.one (show Kd.M Kd.string _ _ _ (⟨#[34]⟩ : ByteArray) [.string (⟨#[34]⟩ : ByteArray)] from rfl) (Reps.none _ _)))))))
              intro v364 w37 ho38 hb hg_ hnew_
              have HS0_ := (hb.cell (World.block_lt_of_cell? _ _ (hHeld.1))).trans (hHeld.1); have HS1_ := (hb.cell (World.block_lt_of_cell? _ _ (hHeld.2.1))).trans (hHeld.2.1); have HS2_ := (hb.cell (World.block_lt_of_cell? _ _ (hHeld.2.2))).trans (hHeld.2.2); clear hg_ hnew_
              (first | rw [← Ny363.out] at ho38 | (simp only [Int.reduceToNat] at ho38; rw [← Ny363.out] at ho38))
              have n0_ := sd (Kd.R_below (rE HO_5.out) hb); have n1_ := sd (Kd.R_lower ho38 (bZ (bE HB.out))); have n2_ := sd (IsS47.below (iE HI338.out) hb); have n3_ := sd (bT (bE HB.out) hb); clear HO_5; clear HI338; clear HB; have HO_5 := n0_; have HO365 := n1_; have HI338 := n2_; have HB := n3_; clear n0_ n1_ n2_ n3_; clear hb ho38; obtain ⟨Ao39, co39, eo39⟩ := Kd.R_slice HO365.out; subst eo39; obtain ⟨ado39, fo39, _⟩ := Kd.at_string (Kd.R_reads' HO365.out).2.2 0 (by decide) (by rw [Ny363.out]; simp); cases fo39
              refine hK.out _ _ ⟨HS0_, HS1_, HS2_⟩ (fun hHeld => ?_)
              clear hK K
              refine norm_ (a' := ?_) ?_ ?_
              rotate_left
              ·show Act.put _ (some 46) _ = _
               simp only [Act.put, List.setIfInBounds_toArray, List.set_cons_zero, List.set_cons_succ, i64_w, i32_w]
               rfl
              refine one_ (i := 9) (N := some 48) #[true, true, true, true, true, true, true, true, true, true, false, false, false, false, false, false] rfl rfl (one_of HT_.out (by kernel_rfl)) (by decide) (fun K hK => ?_)
              refine goes_ Tryz.func22 (by kernel_rfl) rfl #[.pointer (some ⟨gb338, 0, none⟩), .int .i64 5] (by rfl) rfl rfl (by (try simp only [List.map_toArray, List.map_cons, List.map_nil]); first | done | rfl) ?_
              with_reducible refine (spec_l01Cur_pick.calls gb338 l0 t354 t355 t356 5 t366 t367 t368 t369 w _ ?side1 ?side2 A28.out).mono ?_
              (case side1 => exact iE HI338.out)
              (case side2 => exact bE HB.out)
              rintro e w40 ⟨rfl, hi, hb, hk⟩
              have HS0_ := keep_cell hk (hHeld.1) (by first | (rw [add_block]; exact Kd.own_blk (IsS47.own_ne HI338.out HO_5.out (by decide))) | (show (Addr.add _ _).block ≠ _; rw [add_block]; exact Kd.own_blk (IsS47.own_ne HI338.out HO_5.out (by decide))) | exact Kd.own_blk (IsS47.own_ne HI338.out HO_5.out (by decide))); have HS1_ := keep_cell hk (hHeld.2.1) (by first | (rw [add_block]; exact Kd.own_blk (IsS47.own_ne HI338.out HO_5.out (by decide))) | (show (Addr.add _ _).block ≠ _; rw [add_block]; exact Kd.own_blk (IsS47.own_ne HI338.out HO_5.out (by decide))) | exact Kd.own_blk (IsS47.own_ne HI338.out HO_5.out (by decide))); have HS2_ := keep_cell hk (hHeld.2.2) (by first | (rw [add_block]; exact Kd.own_blk (IsS47.own_ne HI338.out HO_5.out (by decide))) | (show (Addr.add _ _).block ≠ _; rw [add_block]; exact Kd.own_blk (IsS47.own_ne HI338.out HO_5.out (by decide))) | exact Kd.own_blk (IsS47.own_ne HI338.out HO_5.out (by decide)))
              refine ⟨_, rfl, ?_⟩
              have n0_ := sd (Kd.R_mono (Kd.R_keep (IsS47.apart (show IsS47 w _ gb338 l0 t354 t355 t356 from iE HI338.out) (rE HO_5.out) (by decide)) hk (fun _ h => h.2)) (fun _ h => h.1)); have n1_ := sd (Kd.R_mono (Kd.R_keep (IsS47.apart (show IsS47 w _ gb338 l0 t354 t355 t356 from iE HI338.out) (rE HO365.out) (by decide)) hk (fun _ h => h.2)) (fun _ h => h.1)); have n2_ := sd (hb); have n3_ := sd (hi); clear HO_5; clear HO365; clear HB; clear HI338; have HO_5 := n0_; have HO365 := n1_; have HB := n2_; have HI338 := n3_; clear n0_ n1_ n2_ n3_
              (try clear hb)
              (try clear hb2)
              (try clear hk)
              (try clear hi)
              refine hK.out _ _ ⟨HS0_, HS1_, HS2_⟩ (fun hHeld => ?_)
              clear hK K
              refine norm_ (a' := ?_) ?_ ?_
              rotate_left
              ·show Act.put _ (some 48) _ = _
               simp only [Act.put, List.setIfInBounds_toArray, List.set_cons_zero, List.set_cons_succ, i64_w, i32_w]
               rfl
              exact norm_ (by simp only [putAll, Act.put, List.setIfInBounds_toArray, List.set_cons_zero, List.set_cons_succ]) (hCont (.slice (some ado39) y363.length co39, ado39) _ ⟨hHeld, (rE HO365.out), (rE HO_5.out), ⟨_, rfl⟩, (iE HI338.out), (bE HB.out)⟩)
             ·skip
              refine goes_ Tryz.func22 (by kernel_rfl) rfl #[.pointer (some ⟨gb338, 0, none⟩), .int .i64 5] (by rfl) rfl rfl (by (try simp only [List.map_toArray, List.map_cons, List.map_nil]); first | done | rfl) ?_
              with_reducible refine (spec_l01Cur_pick.calls gb338 l0 t354 t355 t356 5 t366 t367 t368 t369 w _ ?side1 ?side2 A28.out).mono ?_
              (case side1 => exact iE HI338.out)
              (case side2 => exact bE HB.out)
              rintro e w37 ⟨rfl, hi, hb, hk⟩
              have HS0_ := keep_cell hk (hHeld.1) (by first | (rw [add_block]; exact Kd.own_blk (IsS47.own_ne HI338.out HO_5.out (by decide))) | (show (Addr.add _ _).block ≠ _; rw [add_block]; exact Kd.own_blk (IsS47.own_ne HI338.out HO_5.out (by decide))) | exact Kd.own_blk (IsS47.own_ne HI338.out HO_5.out (by decide))); have HS1_ := keep_cell hk (hHeld.2.1) (by first | (rw [add_block]; exact Kd.own_blk (IsS47.own_ne HI338.out HO_5.out (by decide))) | (show (Addr.add _ _).block ≠ _; rw [add_block]; exact Kd.own_blk (IsS47.own_ne HI338.out HO_5.out (by decide))) | exact Kd.own_blk (IsS47.own_ne HI338.out HO_5.out (by decide))); have HS2_ := keep_cell hk (hHeld.2.2) (by first | (rw [add_block]; exact Kd.own_blk (IsS47.own_ne HI338.out HO_5.out (by decide))) | (show (Addr.add _ _).block ≠ _; rw [add_block]; exact Kd.own_blk (IsS47.own_ne HI338.out HO_5.out (by decide))) | exact Kd.own_blk (IsS47.own_ne HI338.out HO_5.out (by decide)))
              refine ⟨_, rfl, ?_⟩
              have n0_ := sd (Kd.R_mono (Kd.R_keep (IsS47.apart (show IsS47 w _ gb338 l0 t354 t355 t356 from iE HI338.out) (rE HO_5.out) (by decide)) hk (fun _ h => h.2)) (fun _ h => h.1)); have n1_ := sd (hb); have n2_ := sd (hi); clear HO_5; clear HB; clear HI338; have HO_5 := n0_; have HB := n1_; have HI338 := n2_; clear n0_ n1_ n2_
              (try clear hb)
              (try clear hb2)
              (try clear hk)
              (try clear hi)
              refine hK.out _ _ ⟨HS0_, HS1_, HS2_⟩ (fun hHeld => ?_)
              clear hK K
              refine norm_ (a' := ?_) ?_ ?_
              rotate_left
              ·show Act.put _ (some 48) _ = _
               simp only [Act.put, List.setIfInBounds_toArray, List.set_cons_zero, List.set_cons_succ, i64_w, i32_w]
               rfl
              refine one_ (i := 7) (N := some 46) #[true, true, true, true, true, true, true, true, true, true, false, false, false, false, false, false] rfl rfl (one_of HT_.out (by kernel_rfl)) (by decide) (fun K hK => ?_)
              refine Kd.R_lit_step Kd.string _ 9 ?hg (N := 46) ?hd (xs := ([(⟨#[65]⟩ : ByteArray), (⟨#[255]⟩ : ByteArray), (⟨#[32]⟩ : ByteArray), (⟨#[48]⟩ : ByteArray), (⟨#[34]⟩ : ByteArray)] : List ByteArray)) (inner := [.string (⟨#[65]⟩ : ByteArray), .string (⟨#[255]⟩ : ByteArray), .string (⟨#[32]⟩ : ByteArray), .string (⟨#[48]⟩ : ByteArray), .string (⟨#[34]⟩ : ByteArray)]) (ok := fun _ => True) (okp := fun _ => True) ?hr ?hp (fun _ hk => hk) trivial (Below.refl _ _) (Nat.le_refl _) (by simp) ?_; (case hd => rfl); (case hg => rfl); (case hr => go_simp <;> rfl); (case hp => exact (Reps.one (show Kd.M Kd.string _ _ _ (⟨#[65]⟩ : ByteArray) [.string (⟨#[65]⟩ : ByteArray)] from rfl) (Reps.one (show Kd.M Kd.string _ _ _ (⟨#[255]⟩ : ByteArray) [.string (⟨#[255]⟩ : ByteArray)] from rfl) (Reps.one (show Kd.M Kd.string _ _ _ (⟨#[32]⟩ : ByteArray) [.string (⟨#[32]⟩ : ByteArray)] from rfl) (Reps.one (show Kd.M Kd.string _ _ _ (⟨#[48]⟩ : ByteArray) [.string (⟨#[48]⟩ : ByteArray)] from rfl) (Reps.one (show Kd.M Kd.string _ _ _ (⟨#[34]⟩ : ByteArray) [.string (⟨#[34]⟩ : ByteArray)] from rfl) (Reps.none _ _)))))))
              intro v364 w38 ho39 hb hg_ hnew_
              have HS0_ := (hb.cell (World.block_lt_of_cell? _ _ (hHeld.1))).trans (hHeld.1); have HS1_ := (hb.cell (World.block_lt_of_cell? _ _ (hHeld.2.1))).trans (hHeld.2.1); have HS2_ := (hb.cell (World.block_lt_of_cell? _ _ (hHeld.2.2))).trans (hHeld.2.2); clear hg_ hnew_
              (first | rw [← Ny363.out] at ho39 | (simp only [Int.reduceToNat] at ho39; rw [← Ny363.out] at ho39))
              have n0_ := sd (Kd.R_below (rE HO_5.out) hb); have n1_ := sd (Kd.R_lower ho39 (bZ (bE HB.out))); have n2_ := sd (IsS47.below (iE HI338.out) hb); have n3_ := sd (bT (bE HB.out) hb); clear HO_5; clear HI338; clear HB; have HO_5 := n0_; have HO365 := n1_; have HI338 := n2_; have HB := n3_; clear n0_ n1_ n2_ n3_; clear hb ho39; obtain ⟨Ao40, co40, eo40⟩ := Kd.R_slice HO365.out; subst eo40; obtain ⟨ado40, fo40, _⟩ := Kd.at_string (Kd.R_reads' HO365.out).2.2 0 (by decide) (by rw [Ny363.out]; simp); cases fo40
              refine hK.out _ _ ⟨HS0_, HS1_, HS2_⟩ (fun hHeld => ?_)
              clear hK K
              refine norm_ (a' := ?_) ?_ ?_
              rotate_left
              ·show Act.put _ (some 46) _ = _
               simp only [Act.put, List.setIfInBounds_toArray, List.set_cons_zero, List.set_cons_succ, i64_w, i32_w]
               rfl
              exact norm_ (by simp only [putAll, Act.put, List.setIfInBounds_toArray, List.set_cons_zero, List.set_cons_succ]) (hCont (.slice (some ado40) y363.length co40, ado40) _ ⟨hHeld, (rE HO365.out), (rE HO_5.out), ⟨_, rfl⟩, (iE HI338.out), (bE HB.out)⟩)
            rintro ⟨v364, adz_v364⟩ w41 ⟨hS_, h0_, h1_, h2_, h3_, h4_⟩
            have n0_ : Aside0 (Kd.R Kd.string 9 w41 w.heap.size (fun _ => True) v364 y363) := ⟨h0_⟩; have n1_ : Aside0 (Kd.R k35 35 w41 w.heap.size (fun _ => True) (.slice (some ad362) t343.length co33) t343) := ⟨h1_⟩; have n2_ : Aside0 (∃ c_, (v364 : Value) = .slice (some adz_v364) y363.length c_) := ⟨h2_⟩; have n3_ : Aside0 (IsS47 w w41 gb338 l0 t367 t368 t369) := ⟨h3_⟩; have n4_ : Aside0 (Below w.heap.size w w41) := ⟨h4_⟩; clear HO_5; clear HI338; clear HB; clear h0_ h1_ h2_ h3_ h4_; have HO365 := n0_; have HO_5 := n1_; have HA_HO365 := n2_; have HI338 := n3_; have HB := n4_; clear n0_ n1_ n2_ n3_ n4_; have hHeld : w41.cell? (ad362.add ((t349).toNat * 3)) = some (.int .i64 ((rd_T35 t343 t349).f0)) ∧ w41.cell? ⟨(ad362.add ((t349).toNat * 3)).block, (ad362.add ((t349).toNat * 3)).off + 1, none⟩ = some (.string ((rd_T35 t343 t349).f1)) ∧ w41.cell? ⟨(ad362.add ((t349).toNat * 3)).block, (ad362.add ((t349).toNat * 3)).off + 2, none⟩ = some (.int .i64 ((rd_T35 t343 t349).f2)) := hS_; obtain ⟨co42, eo42⟩ := HA_HO365.out; clear HA_HO365; subst eo42; have p32 : 0 ≤ (t349 : Int) := of_decide_eq_true (by assumption); have q32 : (t349 : Int) < ((t343.length : Int) : Int) := of_decide_eq_true (by assumption); obtain ⟨go32, co32, eo32, gb32, gl32, cl32, HG32⟩ := Kd.R_form HO_5.out (by omega)
            (first | cases eo32 | (injection eo32 with ea_ en_ ec_; (first | subst ea_ | (injection ea_ with ea_; subst ea_)); subst ec_; clear en_))
            have GB32 := sd gb32; have GG32 := sd HG32; clear gb32 gl32 HG32
            (first | simp only [add_plain] at hx362_0 | skip)
            (first | simp only [add_plain] at hx362_1 | skip)
            (first | simp only [add_plain] at hx362_2 | skip)
            obtain ⟨ce32, hcl32, hM32, hcc32, hfr32⟩ := Kd.R_elem HO_5.out z35 (t349 : Int) p32 q32; obtain rfl := k35_openM hM32; have hx32_0 : World.cell? _ ⟨go32, (t349 : Int).toNat * 3, none⟩ = some (.int .i64 ((rd_T35 t343 t349).f0)) := hcc32 0 _ rfl; have hx32_1 : World.cell? _ ⟨go32, (t349 : Int).toNat * 3 + 1, none⟩ = some (.string ((rd_T35 t343 t349).f1)) := hcc32 1 _ rfl; have hx32_2 : World.cell? _ ⟨go32, (t349 : Int).toNat * 3 + 2, none⟩ = some (.int .i64 ((rd_T35 t343 t349).f2)) := hcc32 2 _ rfl; have hf32_0 : World.frozen? _ ⟨go32, (t349 : Int).toNat * 3, none⟩ = false := hfr32 0; have hf32_1 : World.frozen? _ ⟨go32, (t349 : Int).toNat * 3 + 1, none⟩ = false := hfr32 1; have hf32_2 : World.frozen? _ ⟨go32, (t349 : Int).toNat * 3 + 2, none⟩ = false := hfr32 2; clear hcl32 hcc32 hfr32 hM32; replace p32 := eq_true p32; replace q32 := eq_true q32; have HN338_go32 := sd (show gb338 ≠ go32 from by have h_ := IsS47.own_ne HI338.out HO_5.out (by decide); intro e_; exact h_ (by rw [e_]; rfl)); obtain ⟨ce43, hcl43, hM43, hcc43, hfr43⟩ := Kd.R_elem HO_5.out z35 (t349 : Int) (of_decide_eq_true (by assumption)) (by have h_ : (t349 : Int) < ((t343.length : Int) : Int) := of_decide_eq_true (by assumption); first | exact h_ | (have e_ := (Kd.R_reads' HO_5.out).1; omega) | simpa using h_); obtain rfl := k35_openM hM43; have HP43 := (Kd.R_seg HO_5.out (t349 : Int) (of_decide_eq_true (by assumption)) (by have h_ : (t349 : Int) < ((t343.length : Int) : Int) := of_decide_eq_true (by assumption); first | exact h_ | (have e_ := (Kd.R_reads' HO_5.out).1; omega) | simpa using h_) (seg := [.string (((rd_T35 t343 t349).f1) ++ (rdOf ByteArray.empty y363 t366))]) (j := 1) hcl43 hcc43 (show 2 ≤ 3 from by decide) (x' := (⟨(rd_T35 t343 t349).f0, ((rd_T35 t343 t349).f1) ++ (rdOf ByteArray.empty y363 t366), (rd_T35 t343 t349).f2⟩ : S35)) (k35_mkM _ _ _ (⟨(rd_T35 t343 t349).f0, ((rd_T35 t343 t349).f1) ++ (rdOf ByteArray.empty y363 t366), (rd_T35 t343 t349).f2⟩ : S35) ) (fun _ hk => hk)).1; rw [← Ny371.out] at HP43
            have HQ43 := sd HP43; clear hcl43 hcc43 hfr43 hM43 HP43
            refine norm_ (a' := ?_) ?_ ?_
            rotate_left
            ·simp only [putAll, Act.put, List.setIfInBounds_toArray, List.set_cons_zero, List.set_cons_succ]
             rfl
            refine pure_ (i := 10) (N := some 49) (v := ?_) (a' := ?_) #[true, true, true, true, true, true, true, true, true, true, true, false, false, false, false, false] rfl rfl (any_of HT_.out (by kernel_rfl)) (fun _ _ _ h => h) (Or.inl ⟨by rfl, ?_⟩) ?_ ?_
            rotate_left
            ·intro w'
             go_simp
             with_reducible rfl
            rotate_left
            ·simp only [Act.put, List.setIfInBounds_toArray, List.set_cons_zero, List.set_cons_succ, i64_w, i32_w]
             rfl
            refine one_ (i := 11) (N := some 50) #[true, true, true, true, true, true, true, true, true, true, true, true, false, false, false, false] rfl rfl (one_of HT_.out (by kernel_rfl)) (by decide) (fun K hK => ?_)
            (have p370 : 0 ≤ (t366 : Int) := of_decide_eq_true (by assumption); have q370 : t366 < (y363.length : Int) := of_decide_eq_true (by assumption); obtain ⟨ad370, e370, hx370_0⟩ := Kd.at_string (Kd.R_reads' HO365.out).2.2 t366 p370 q370; obtain rfl : adz_v364 = ad370 := (by injection e370))
            refine value_ (w1 := ?_) (v := ?_) (by rfl) rfl ?_ ?_
            rotate_left 2
            ·go_simp
             constructor
             ·rfl
             ·rfl
            clear hx370_0
            refine hK.out _ _ ⟨hHeld.1, hHeld.2.1, hHeld.2.2⟩ (fun hHeld => ?_)
            clear hK K
            refine norm_ (a' := ?_) ?_ ?_
            rotate_left
            ·show Act.put _ (some 50) _ = _
             simp only [Act.put, List.setIfInBounds_toArray, List.set_cons_zero, List.set_cons_succ, i64_w, i32_w]
             rfl
            refine pure_ (i := 12) (N := some 51) (v := ?_) (a' := ?_) #[true, true, true, true, true, true, true, true, true, true, true, true, true, false, false, false] rfl rfl (any_of HT_.out (by kernel_rfl)) (fun _ _ _ h => h) (Or.inl ⟨by rfl, ?_⟩) ?_ ?_
            rotate_left
            ·intro w'
             go_simp
             with_reducible rfl
            rotate_left
            ·simp only [Act.put, List.setIfInBounds_toArray, List.set_cons_zero, List.set_cons_succ, i64_w, i32_w]
             rfl
            refine pure_ (i := 13) (N := some 52) (v := ?_) (a' := ?_) #[true, true, true, true, true, true, true, true, true, true, true, true, true, true, false, false] rfl rfl (any_of HT_.out (by kernel_rfl)) (fun _ _ _ h => h) (Or.inl ⟨by rfl, ?_⟩) ?_ ?_
            rotate_left
            ·intro w'
             go_simp
             with_reducible rfl
            rotate_left
            ·simp only [Act.put, List.setIfInBounds_toArray, List.set_cons_zero, List.set_cons_succ, i64_w, i32_w]
             rfl
            refine pure_ (i := 14) (N := some 53) (v := ?_) (a' := ?_) #[true, true, true, true, true, true, true, true, true, true, true, true, true, true, true, false] rfl rfl (any_of HT_.out (by kernel_rfl)) (fun _ _ _ h => h) (Or.inl ⟨by rfl, ?_⟩) ?_ ?_
            rotate_left
            ·intro w'
             go_simp
             with_reducible rfl
            rotate_left
            ·simp only [Act.put, List.setIfInBounds_toArray, List.set_cons_zero, List.set_cons_succ, i64_w, i32_w]
             rfl
            refine last_ (i := 15) (N := none) #[true, true, true, true, true, true, true, true, true, true, true, true, true, true, true, true] rfl rfl (one_of HT_.out (by kernel_rfl)) (by decide) (fun K hK => ?_)
            refine skip_ (w1 := ?_) (by rfl) rfl ?_ ?_
            rotate_left
            ·go_simp
             rfl
            refine hK.out _ _ ?_
            clear hK K
            refine done_ (done_of HT_.out (by kernel_rfl)) ?_
            try go_wp2
            go_meet
            case rel => exact ⟨_, (y371), (t367), (t368), (t369), H', ⟨by have := HJ3.out; first | omega | exact Nat.le_refl _⟩, ⟨by (with_reducible repeat (first | apply rA | apply rN | apply r1)); exact HQ43.out⟩, ⟨by repeat (first | (with_reducible first | exact HI338.out | apply iA | apply iN | apply i1 | apply i_1 | apply i_2 | apply i_3 | refine iF ?_ HN338_go32.out _) | exact HI338.out)⟩, ⟨by repeat (first | (with_reducible first | exact HB.out | apply bA | apply bN | apply b1 | refine bS ?_ GB32.out | refine bS ?_ (iG HI338.out)) | exact HB.out)⟩⟩
           ·rw [if_neg c31] at H; exact absurd H (by simp)
          ·rw [if_neg c30] at H; exact absurd H (by simp)
         ·rw [if_neg c29] at H; exact absurd H (by simp)
        ·rw [if_neg c27] at H; exact absurd H (by simp)
       ·rw [if_neg c26] at H; exact absurd H (by simp)
      ·rw [if_neg c25] at H; have c25b0 : (t353 == 1) = false := beq_eq_false_iff_ne.mpr c25; have c25b1 : (t353 != 1) = true := bne_iff_ne.mpr c25
       by_cases c44 : t353 = 2
       ·rw [if_pos c44] at H; have c44b0 : (t353 == 2) = true := beq_iff_eq.mpr c44; have c44b1 : (t353 != 2) = false := bne_eq_false_iff_eq.mpr c44; clear c44; obtain ⟨y372, hy372⟩ : ∃ y_ : List ByteArray, y_ = (([(⟨#[]⟩ : ByteArray), (⟨#[48, 48, 55]⟩ : ByteArray), (⟨#[33, 61]⟩ : ByteArray), (⟨#[49, 46, 53, 48, 48, 48, 48]⟩ : ByteArray), (⟨#[45, 49]⟩ : ByteArray)] : List ByteArray)) := ⟨_, rfl⟩; replace H : ((spec_l01Cur_pick.f l0 t354 t355 t356 5).bind fun bt375 => (if 0 ≤ bt375.1 then (if bt375.1 < (y372.length : Int) then (if 0 ≤ t349 then (if t349 < (t343.length : Int) then (spec_DrawUnlex.j1 kj3 t339 (t343.set (t349 : Int).toNat (⟨(rd_T35 t343 t349).f0, rdOf ByteArray.empty y372 bt375.1, (rd_T35 t343 t349).f2⟩ : S35)) l0 bt375.2.1 bt375.2.2.1 bt375.2.2.2) else (none)) else (none)) else (none)) else (none))) = some r := by first | (rw [hy372]; with_reducible exact H) | (have H2_ := (Option.bind_some _ _).symm.trans H; rw [hy372]; with_reducible exact H2_) | (have H2_ := (Option.bind_some _ _).symm.trans H; with_reducible exact H2_) | with_reducible exact H | (rw [hy372]; exact H) | exact H
        have Ny372 := sd hy372; clear hy372; replace H := Option.bind_eq_some_iff.mp H; obtain ⟨⟨t375, t376, t377, t378⟩, A450, H⟩ := H; replace H : (if 0 ≤ t375 then (if t375 < (y372.length : Int) then (if 0 ≤ t349 then (if t349 < (t343.length : Int) then (spec_DrawUnlex.j1 kj3 t339 (t343.set (t349 : Int).toNat (⟨(rd_T35 t343 t349).f0, rdOf ByteArray.empty y372 t375, (rd_T35 t343 t349).f2⟩ : S35)) l0 t376 t377 t378) else (none)) else (none)) else (none)) else (none)) = some r := H; have A45 := sd A450; clear A450
        by_cases c46 : 0 ≤ t375
        ·rw [if_pos c46] at H; have c46b0 : decide (0 ≤ t375) = true := decide_eq_true c46; clear c46
         by_cases c47 : t375 < (y372.length : Int)
         ·rw [if_pos c47] at H; have c47b0 : decide (t375 < (y372.length : Int)) = true := decide_eq_true c47; clear c47
          by_cases c48 : 0 ≤ t349
          ·rw [if_pos c48] at H; have c48b0 : decide (0 ≤ t349) = true := decide_eq_true c48; clear c48
           by_cases c49 : t349 < (t343.length : Int)
           ·rw [if_pos c49] at H; have c49b0 : decide (t349 < (t343.length : Int)) = true := decide_eq_true c49; clear c49; obtain ⟨y380, hy380⟩ : ∃ y_ : List (S35), y_ = (t343.set (t349 : Int).toNat (⟨(rd_T35 t343 t349).f0, rdOf ByteArray.empty y372 t375, (rd_T35 t343 t349).f2⟩ : S35)) := ⟨_, rfl⟩; replace H : (spec_DrawUnlex.j1 kj3 t339 y380 l0 t376 t377 t378) = some r := by first | (rw [hy380]; with_reducible exact H) | (have H2_ := (Option.bind_some _ _).symm.trans H; rw [hy380]; with_reducible exact H2_) | (have H2_ := (Option.bind_some _ _).symm.trans H; with_reducible exact H2_) | with_reducible exact H | (rw [hy380]; exact H) | exact H
            have Ny380 := sd hy380; clear hy380; have H' := sd H
            clear H; obtain ⟨Ao51, co51, eo51⟩ := Kd.R_slice HO_5.out; subst eo51
            go_wp2_with (first | ((with_reducible refine gate_callee (f := 22) rfl ?_); refine goesL_ (some 25) rfl rfl Tryz.func22 (by kernel_rfl) rfl #[.pointer (some ⟨gb338, 0, none⟩), .int .i64 (t343.length : Int)] rfl (by (try simp only [List.map_toArray, List.map_cons, List.map_nil]); first | done | rfl) ?_; (with_reducible refine (spec_l01Cur_pick.calls gb338 l0 t346 t347 t348 (t343.length : Int) t349 t350 t351 t352 w _ ?side1 ?side2 A12.out).mono ?_); (case side1 => exact iE HI338.out); (case side2 => exact bE HB.out); rintro e w52 ⟨rfl, hi, hb, hk⟩; refine ⟨_, rfl, ?_⟩; replace HO_5 := sd (Kd.R_mono (Kd.R_keep (IsS47.apart (show IsS47 w _ gb338 l0 t346 t347 t348 from iE HI338.out) (rE HO_5.out) (by decide)) hk (fun _ h => h.2)) (fun _ h => h.1)); replace HB := sd (hb); replace HI338 := sd (hi); (try clear hb); (try clear hb2); (try clear hk); (try clear hi)) | ((with_reducible refine gate_callee (f := 22) rfl ?_); refine goesL_ (some 27) rfl rfl Tryz.func22 (by kernel_rfl) rfl #[.pointer (some ⟨gb338, 0, none⟩), .int .i64 3] rfl (by (try simp only [List.map_toArray, List.map_cons, List.map_nil]); first | done | rfl) ?_; (with_reducible refine (spec_l01Cur_pick.calls gb338 l0 t350 t351 t352 3 t353 t354 t355 t356 w _ ?side1 ?side2 A13.out).mono ?_); (case side1 => exact iE HI338.out); (case side2 => exact bE HB.out); rintro e w53 ⟨rfl, hi, hb, hk⟩; refine ⟨_, rfl, ?_⟩; replace HO_5 := sd (Kd.R_mono (Kd.R_keep (IsS47.apart (show IsS47 w _ gb338 l0 t350 t351 t352 from iE HI338.out) (rE HO_5.out) (by decide)) hk (fun _ h => h.2)) (fun _ h => h.1)); replace HB := sd (hb); replace HI338 := sd (hi); (try clear hb); (try clear hb2); (try clear hk); (try clear hi)) | ((with_reducible refine gate_dst (N := 58) rfl ?_); (try (refine gate_guard (by rfl) ?_; dsimp only)); refine Kd.R_lit Kd.string _ 9 ?hg (N := 58) ?hd (xs := ([(⟨#[]⟩ : ByteArray), (⟨#[48, 48, 55]⟩ : ByteArray), (⟨#[33, 61]⟩ : ByteArray), (⟨#[49, 46, 53, 48, 48, 48, 48]⟩ : ByteArray), (⟨#[45, 49]⟩ : ByteArray)] : List ByteArray)) (inner := [.string (⟨#[]⟩ : ByteArray), .string (⟨#[48, 48, 55]⟩ : ByteArray), .string (⟨#[33, 61]⟩ : ByteArray), .string (⟨#[49, 46, 53, 48, 48, 48, 48]⟩ : ByteArray), .string (⟨#[45, 49]⟩ : ByteArray)]) (ok := fun _ => True) (okp := fun _ => True) ?hr ?hp (fun _ hk => hk) trivial (Below.refl _ _) (Nat.le_refl _) (by simp) ?_; (case hd => rfl); (case hg => rfl); (case hr => go_simp <;> rfl); (case hp => exact (Reps.one (show Kd.M Kd.string _ _ _ (⟨#[]⟩ : ByteArray) [.string (⟨#[]⟩ : ByteArray)] from rfl) (Reps.one (show Kd.M Kd.string _ _ _ (⟨#[48, 48, 55]⟩ : ByteArray) [.string (⟨#[48, 48, 55]⟩ : ByteArray)] from rfl) (Reps.one (show Kd.M Kd.string _ _ _ (⟨#[33, 61]⟩ : ByteArray) [.string (⟨#[33, 61]⟩ : ByteArray)] from rfl) (Reps.one (show Kd.M Kd.string _ _ _ (⟨#[49, 46, 53, 48, 48, 48, 48]⟩ : ByteArray) [.string (⟨#[49, 46, 53, 48, 48, 48, 48]⟩ : ByteArray)] from rfl) (Reps.one (show Kd.M Kd.string _ _ _ (⟨#[45, 49]⟩ : ByteArray) [.string (⟨#[45, 49]⟩ : ByteArray)] from rfl) (Reps.none _ _))))))); intro v373 w54 ho55 hb hg_ hnew_; clear hg_ hnew_; (first | rw [← Ny372.out] at ho55 | (simp only [Int.reduceToNat] at ho55; rw [← Ny372.out] at ho55)); replace HO_5 := sd (Kd.R_below (rE HO_5.out) hb); have HO374 := sd (Kd.R_lower ho55 (bZ (bE HB.out))); replace HB := sd (bT (bE HB.out) hb); replace HI338 := sd (IsS47.below (iE HI338.out) hb); clear hb ho55) | ((with_reducible refine gate_callee (f := 22) rfl ?_); refine goesL_ (some 60) rfl rfl Tryz.func22 (by kernel_rfl) rfl #[.pointer (some ⟨gb338, 0, none⟩), .int .i64 5] rfl (by (try simp only [List.map_toArray, List.map_cons, List.map_nil]); first | done | rfl) ?_; (with_reducible refine (spec_l01Cur_pick.calls gb338 l0 t354 t355 t356 5 t375 t376 t377 t378 w _ ?side1 ?side2 A45.out).mono ?_); (case side1 => exact iE HI338.out); (case side2 => exact bE HB.out); rintro e w56 ⟨rfl, hi, hb, hk⟩; refine ⟨_, rfl, ?_⟩; replace HO_5 := sd (Kd.R_mono (Kd.R_keep (IsS47.apart (show IsS47 w _ gb338 l0 t354 t355 t356 from iE HI338.out) (rE HO_5.out) (by decide)) hk (fun _ h => h.2)) (fun _ h => h.1)); replace HO374 := sd (Kd.R_mono (Kd.R_keep (IsS47.apart (show IsS47 w _ gb338 l0 t354 t355 t356 from iE HI338.out) (rE HO374.out) (by decide)) hk (fun _ h => h.2)) (fun _ h => h.1)); replace HB := sd (hb); replace HI338 := sd (hi); (try clear hb); (try clear hb2); (try clear hk); (try clear hi); obtain ⟨Ao57, co57, eo57⟩ := Kd.R_slice HO374.out; subst eo57; have p379 : 0 ≤ (t375 : Int) := of_decide_eq_true (by assumption); have q379 : t375 < (y372.length : Int) := of_decide_eq_true (by assumption); obtain ⟨ad379, e379, hx379_0⟩ := Kd.at_string (Kd.R_reads' HO374.out).2.2 t375 p379 q379; cases e379; replace p379 := eq_true p379; replace q379 := eq_true q379; have p50 : 0 ≤ (t349 : Int) := of_decide_eq_true (by assumption); have q50 : (t349 : Int) < ((t343.length : Int) : Int) := of_decide_eq_true (by assumption); obtain ⟨go50, co50, eo50, gb50, gl50, cl50, HG50⟩ := Kd.R_form HO_5.out (by omega); (first | cases eo50 | (injection eo50 with ea_ en_ ec_; (first | subst ea_ | (injection ea_ with ea_; subst ea_)); subst ec_; clear en_)); have GB50 := sd gb50; have GG50 := sd HG50; clear gb50 gl50 HG50; obtain ⟨ce50, hcl50, hM50, hcc50, hfr50⟩ := Kd.R_elem HO_5.out z35 (t349 : Int) p50 q50; obtain rfl := k35_openM hM50; have hx50_0 : w56.cell? ⟨go50, (t349 : Int).toNat * 3, none⟩ = some (.int .i64 ((rd_T35 t343 t349).f0)) := hcc50 0 _ rfl; have hx50_1 : w56.cell? ⟨go50, (t349 : Int).toNat * 3 + 1, none⟩ = some (.string ((rd_T35 t343 t349).f1)) := hcc50 1 _ rfl; have hx50_2 : w56.cell? ⟨go50, (t349 : Int).toNat * 3 + 2, none⟩ = some (.int .i64 ((rd_T35 t343 t349).f2)) := hcc50 2 _ rfl; have hf50_0 : w56.frozen? ⟨go50, (t349 : Int).toNat * 3, none⟩ = false := hfr50 0; have hf50_1 : w56.frozen? ⟨go50, (t349 : Int).toNat * 3 + 1, none⟩ = false := hfr50 1; have hf50_2 : w56.frozen? ⟨go50, (t349 : Int).toNat * 3 + 2, none⟩ = false := hfr50 2; clear hcl50 hcc50 hfr50 hM50; replace p50 := eq_true p50; replace q50 := eq_true q50; have HX58 := sd (show Kd.R k35 35 w56 w.heap.size (fun _ => True) (.slice (some ⟨go50, 0, none⟩) t343.length co51) t343 from (rE HO_5.out)); obtain ⟨ce58, hcl58, hM58, hcc58, hfr58⟩ := Kd.R_elem HX58.out z35 (t349 : Int) (of_decide_eq_true (by assumption)) (by have h_ : (t349 : Int) < ((t343.length : Int) : Int) := of_decide_eq_true (by assumption); first | exact h_ | (have e_ := (Kd.R_reads' HO_5.out).1; omega) | simpa using h_); obtain rfl := k35_openM hM58; have HP58 := Kd.R_seg HX58.out (t349 : Int) (of_decide_eq_true (by assumption)) (by have h_ : (t349 : Int) < ((t343.length : Int) : Int) := of_decide_eq_true (by assumption); first | exact h_ | (have e_ := (Kd.R_reads' HO_5.out).1; omega) | simpa using h_) (seg := [.string (rdOf ByteArray.empty y372 t375)]) (j := 1) hcl58 hcc58 (show 2 ≤ 3 from by decide) (x' := (⟨(rd_T35 t343 t349).f0, rdOf ByteArray.empty y372 t375, (rd_T35 t343 t349).f2⟩ : S35)) (k35_mkM _ _ _ (⟨(rd_T35 t343 t349).f0, rdOf ByteArray.empty y372 t375, (rd_T35 t343 t349).f2⟩ : S35) ) (fun _ hk => hk); have hx58_1 := hcc58 1 _ rfl; (try simp only [show (k35).sz = 3 from rfl, Nat.mul_one, Nat.add_zero] at hx58_1); have hf58_1 := hfr58 1; (try simp only [show (k35).sz = 3 from rfl, Nat.mul_one, Nat.add_zero] at hf58_1); clear hcl58 hcc58 hfr58 hM58) | ((with_reducible refine gate_store (t := 9) (p := 64) rfl ?_); refine store_event (t := 9) (p := 64) (v := ?vo_w59) (w1 := (w56.setCell ⟨go50, (t349 : Int).toNat * 3 + 1, none⟩ (.string (rdOf ByteArray.empty y372 t375)))) ?hg ?ho ?hn ?hr ?_; (case ho => rfl); (case hg => rfl); (case hn => rfl); (case hr => go_simp <;> rfl); intro w59 hw; have hg : w56.grownBy w59 (some go50) := (by rw [hw]; exact HP58.2); have hp_ : Kd.R k35 35 w59 w.heap.size (fun _ => True) (.slice (some ⟨go50, 0, none⟩) t343.length co51) y380 := (by rw [hw, Ny380.out]; exact HP58.1); clear HP58; replace HI338 := sd (IsS47.grown (show IsS47 w _ gb338 l0 t376 t377 t378 from iE HI338.out) hg (IsS47.own_ne HI338.out HO_5.out (by decide))); replace HO374 := sd (Kd.R_over' (v := (.slice (some ⟨go50, 0, none⟩) t343.length co51)) (rE HO374.out) (Kd.R_typed HO_5.out) (by decide) hg); replace HO_5 := sd (hp_); replace HB := sd ((by rw [hw]; exact bS (HB.out) GB50.out : Below w.heap.size w w59)); clear hg hw hp_))
            go_meet
            case rel => exact ⟨_, (y380), (t376), (t377), (t378), H', ⟨by have := HJ3.out; first | omega | exact Nat.le_refl _⟩, ⟨rE HO_5.out⟩, ⟨iE HI338.out⟩, ⟨bE HB.out⟩⟩
           ·rw [if_neg c49] at H; exact absurd H (by simp)
          ·rw [if_neg c48] at H; exact absurd H (by simp)
         ·rw [if_neg c47] at H; exact absurd H (by simp)
        ·rw [if_neg c46] at H; exact absurd H (by simp)
       ·rw [if_neg c44] at H; have c44b0 : (t353 == 2) = false := beq_eq_false_iff_ne.mpr c44; have c44b1 : (t353 != 2) = true := bne_iff_ne.mpr c44; have H' := sd H
        clear H; obtain ⟨Ao60, co60, eo60⟩ := Kd.R_slice HO_5.out; subst eo60
        go_wp2_with (first | ((with_reducible refine gate_callee (f := 22) rfl ?_); refine goesL_ (some 25) rfl rfl Tryz.func22 (by kernel_rfl) rfl #[.pointer (some ⟨gb338, 0, none⟩), .int .i64 (t343.length : Int)] rfl (by (try simp only [List.map_toArray, List.map_cons, List.map_nil]); first | done | rfl) ?_; (with_reducible refine (spec_l01Cur_pick.calls gb338 l0 t346 t347 t348 (t343.length : Int) t349 t350 t351 t352 w _ ?side1 ?side2 A12.out).mono ?_); (case side1 => exact iE HI338.out); (case side2 => exact bE HB.out); rintro e w61 ⟨rfl, hi, hb, hk⟩; refine ⟨_, rfl, ?_⟩; replace HO_5 := sd (Kd.R_mono (Kd.R_keep (IsS47.apart (show IsS47 w _ gb338 l0 t346 t347 t348 from iE HI338.out) (rE HO_5.out) (by decide)) hk (fun _ h => h.2)) (fun _ h => h.1)); replace HB := sd (hb); replace HI338 := sd (hi); (try clear hb); (try clear hb2); (try clear hk); (try clear hi)) | ((with_reducible refine gate_callee (f := 22) rfl ?_); refine goesL_ (some 27) rfl rfl Tryz.func22 (by kernel_rfl) rfl #[.pointer (some ⟨gb338, 0, none⟩), .int .i64 3] rfl (by (try simp only [List.map_toArray, List.map_cons, List.map_nil]); first | done | rfl) ?_; (with_reducible refine (spec_l01Cur_pick.calls gb338 l0 t350 t351 t352 3 t353 t354 t355 t356 w _ ?side1 ?side2 A13.out).mono ?_); (case side1 => exact iE HI338.out); (case side2 => exact bE HB.out); rintro e w62 ⟨rfl, hi, hb, hk⟩; refine ⟨_, rfl, ?_⟩; replace HO_5 := sd (Kd.R_mono (Kd.R_keep (IsS47.apart (show IsS47 w _ gb338 l0 t350 t351 t352 from iE HI338.out) (rE HO_5.out) (by decide)) hk (fun _ h => h.2)) (fun _ h => h.1)); replace HB := sd (hb); replace HI338 := sd (hi); (try clear hb); (try clear hb2); (try clear hk); (try clear hi)))
        go_meet
        case rel => exact ⟨_, (t343), (t354), (t355), (t356), H', ⟨by have := HJ3.out; first | omega | exact Nat.le_refl _⟩, ⟨rE HO_5.out⟩, ⟨iE HI338.out⟩, ⟨bE HB.out⟩⟩
    ·replace c11 := Bool.eq_false_iff.mpr c11; subst c11; have H1 : (spec_DrawUnlex.j1 kj3 t339 t343 l0 t346 t347 t348) = some r := by rw [if_neg (show ¬ (false = true) by decide)] at H; exact H
     clear H; have H := H1; clear H1; have H' := sd H
     clear H; go_wp2
     go_meet
     case rel => exact ⟨_, (t343), (t346), (t347), (t348), H', ⟨by have := HJ3.out; first | omega | exact Nat.le_refl _⟩, ⟨rE HO_5.out⟩, ⟨iE HI338.out⟩, ⟨bE HB.out⟩⟩
   case rest =>
    clear HC10; (try clear c1); (try clear p1); (try clear q1); (try clear hx1); (try clear hf1); (try clear c2); (try clear p2); (try clear hx2); (try clear hf2); (try clear c3); (try clear p3); (try clear q3); (try clear hx3); (try clear qi3); (try clear hf3); (try clear c4); (try clear c5); (try clear p5); (try clear q5); (try clear hx5); (try clear hf5); (try clear p6); (try clear c8); (try clear c8b0); (try clear c8b1); (try clear c10); (try clear c11); (try clear c14); (try clear c14b0); (try clear c14b1); (try clear c16); (try clear c16b0); (try clear c17); (try clear c17b0); (try clear c18); (try clear p18); (try clear q18); (try clear hx18); (try clear hf18); (try clear c20); (try clear c21); (try clear c22); (try clear c23); (try clear hx23); (try clear hf23); (try clear c25); (try clear c25b0); (try clear c25b1); (try clear c26); (try clear c26b0); (try clear c27); (try clear c27b0); (try clear c29); (try clear c29b0); (try clear c30); (try clear c30b0); (try clear c31); (try clear c31b0); (try clear c31b1); (try clear c31b2); (try clear c32); (try clear p32); (try clear q32); (try clear hx32); (try clear hf32); (try clear p36); (try clear q36); (try clear hx36); (try clear p37); (try clear q37); (try clear hx37); (try clear qi37); (try clear c43); (try clear c44); (try clear c44b0); (try clear c44b1); (try clear c46); (try clear c46b0); (try clear c47); (try clear c47b0); (try clear c48); (try clear c48b0); (try clear c49); (try clear c49b0); (try clear c50); (try clear p50); (try clear q50); (try clear hx50); (try clear hf50); (try clear c58); (try clear hx58); (try clear hf58); (try clear hx18_0); (try clear hx18_1); (try clear hx18_2); (try clear hx23_0); (try clear hx32_0); (try clear hx32_1); (try clear hx32_2); (try clear hx362_0); (try clear hx362_1); (try clear hx362_2); (try clear hx370_0); (try clear hx379_0); (try clear hx50_0); (try clear hx50_1); (try clear hx50_2); (try clear hx58_1); (try clear p18); (try clear p2); (try clear p32); (try clear p362); (try clear p370); (try clear p379); (try clear p50); (try clear q18); (try clear q32); (try clear q362); (try clear q370); (try clear q379); (try clear q50); obtain ⟨kq, x5_9, x339001_9, x339002_9, x339003_9, HA, HJ9, HO_5, HI338, HB⟩ := hcut; cases kq with
    | zero => exact absurd HA.out (by simp [spec_DrawUnlex.j1])
    | succ kj9 =>
     have H := HA.out; clear HA; simp only [spec_DrawUnlex.j1] at H
     by_cases c63 : t339 = 2
     ·rw [if_pos c63] at H; have c63b0 : (t339 == 2) = true := beq_iff_eq.mpr c63; have c63b1 : (t339 != 2) = false := bne_eq_false_iff_eq.mpr c63; clear c63; replace H := Option.bind_eq_some_iff.mp H; obtain ⟨⟨t381, t382, t383, t384⟩, A640, H⟩ := H; replace H : (if t381 = 0 then (spec_DrawUnlex.l0 kj9 x5_9 l0 t382 t383 t384) else (spec_DrawUnlex.l1 kj9 x5_9 0 l0 t382 t383 t384)) = some r := H; have A64 := sd A640; clear A640
      by_cases c65 : t381 = 0
      ·rw [if_pos c65] at H; have c65b0 : (t381 == 0) = true := beq_iff_eq.mpr c65; have c65b1 : (t381 != 0) = false := bne_eq_false_iff_eq.mpr c65; clear c65; have H' := sd H
       clear H
       go_wp2_with (first | ((with_reducible refine gate_callee (f := 22) rfl ?_); refine goesL_ (some 68) rfl rfl Tryz.func22 (by kernel_rfl) rfl #[.pointer (some ⟨gb338, 0, none⟩), .int .i64 2] rfl (by (try simp only [List.map_toArray, List.map_cons, List.map_nil]); first | done | rfl) ?_; (with_reducible refine (spec_l01Cur_pick.calls gb338 l0 x339001_9 x339002_9 x339003_9 2 t381 t382 t383 t384 w _ ?side1 ?side2 A64.out).mono ?_); (case side1 => exact iE HI338.out); (case side2 => exact bE HB.out); rintro e w66 ⟨rfl, hi, hb, hk⟩; refine ⟨_, rfl, ?_⟩; replace HO_5 := sd (Kd.R_mono (Kd.R_keep (IsS47.apart (show IsS47 w _ gb338 l0 x339001_9 x339002_9 x339003_9 from iE HI338.out) (rE HO_5.out) (by decide)) hk (fun _ h => h.2)) (fun _ h => h.1)); replace HB := sd (hb); replace HI338 := sd (hi); (try clear hb); (try clear hb2); (try clear hk); (try clear hi)))
       go_loopg [5] kj9 (fun kq v5 w' => ∃ (x5_3 : List (S35)) (x339001_3 : Int) (x339002_3 : Int) (x339003_3 : Int), Aside0 (spec_DrawUnlex.l0 kq x5_3 l0 x339001_3 x339002_3 x339003_3 = some r) ∧ Aside0 (kq ≤ kj9) ∧ Aside0 (Kd.R k35 35 w' w.heap.size (fun _ => True) v5 x5_3) ∧ Aside0 (IsS47 w w' gb338 l0 x339001_3 x339002_3 x339003_3) ∧ Aside0 (Below w.heap.size w w'))
       case atStart => exact ⟨(x5_9), (t382), (t383), (t384), H', ⟨Nat.le_refl _⟩, ⟨rE HO_5.out⟩, ⟨iE HI338.out⟩, ⟨bE HB.out⟩⟩
       case round =>
        clear H'; (try clear c1); (try clear p1); (try clear q1); (try clear hx1); (try clear hf1); (try clear c2); (try clear p2); (try clear hx2); (try clear hf2); (try clear c3); (try clear p3); (try clear q3); (try clear hx3); (try clear qi3); (try clear hf3); (try clear c4); (try clear c5); (try clear p5); (try clear q5); (try clear hx5); (try clear hf5); (try clear c6); (try clear p6); (try clear c8); (try clear c8b0); (try clear c8b1); (try clear c10); (try clear c11); (try clear c14); (try clear c14b0); (try clear c14b1); (try clear c16); (try clear c16b0); (try clear c17); (try clear c17b0); (try clear c18); (try clear p18); (try clear q18); (try clear hx18); (try clear hf18); (try clear c20); (try clear c21); (try clear c22); (try clear c23); (try clear hx23); (try clear hf23); (try clear c25); (try clear c25b0); (try clear c25b1); (try clear c26); (try clear c26b0); (try clear c27); (try clear c27b0); (try clear c29); (try clear c29b0); (try clear c30); (try clear c30b0); (try clear c31); (try clear c31b0); (try clear c31b1); (try clear c31b2); (try clear c32); (try clear p32); (try clear q32); (try clear hx32); (try clear hf32); (try clear p36); (try clear q36); (try clear hx36); (try clear p37); (try clear q37); (try clear hx37); (try clear qi37); (try clear c43); (try clear c44); (try clear c44b0); (try clear c44b1); (try clear c46); (try clear c46b0); (try clear c47); (try clear c47b0); (try clear c48); (try clear c48b0); (try clear c49); (try clear c49b0); (try clear c50); (try clear p50); (try clear q50); (try clear hx50); (try clear hf50); (try clear c58); (try clear hx58); (try clear hf58); (try clear c63); (try clear c63b0); (try clear c63b1); (try clear c65); (try clear c65b0); (try clear c65b1); (try clear hx18_0); (try clear hx18_1); (try clear hx18_2); (try clear hx23_0); (try clear hx32_0); (try clear hx32_1); (try clear hx32_2); (try clear hx362_0); (try clear hx362_1); (try clear hx362_2); (try clear hx370_0); (try clear hx379_0); (try clear hx50_0); (try clear hx50_1); (try clear hx50_2); (try clear hx58_1); (try clear p1); (try clear p18); (try clear p2); (try clear p3); (try clear p32); (try clear p36); (try clear p362); (try clear p37); (try clear p370); (try clear p379); (try clear p5); (try clear p50); (try clear p6); (try clear q1); (try clear q18); (try clear q3); (try clear q32); (try clear q36); (try clear q362); (try clear q37); (try clear q370); (try clear q379); (try clear q5); (try clear q50); obtain ⟨x5_3, x339001_3, x339002_3, x339003_3, HA, HK3, HO_5, HI338, HB⟩ := hrel; cases gk with
        | zero => exact absurd HA.out (by simp [spec_DrawUnlex.l0])
        | succ k3 =>
         have H := HA.out; clear HA; simp only [spec_DrawUnlex.l0] at H; replace H := Option.bind_eq_some_iff.mp H; obtain ⟨⟨t385, t386, t387, t388⟩, A670, H⟩ := H; replace H : (if (x5_3.length : Int) < (wrap64 (2000 + t385)) then (if x5_3.length < 4398046511104 then (spec_DrawUnlex.l0 k3 (x5_3 ++ [(⟨6, (⟨#[59]⟩ : ByteArray), 0⟩ : S35)]) l0 t386 t387 t388) else (none)) else (some x5_3)) = some r := H; have A67 := sd A670; clear A670
         by_cases c68 : (x5_3.length : Int) < (wrap64 (2000 + t385))
         ·rw [if_pos c68] at H; have c68b0 : decide ((x5_3.length : Int) < (wrap64 (2000 + t385))) = true := decide_eq_true c68; clear c68
          by_cases c69 : x5_3.length < 4398046511104
          ·rw [if_pos c69] at H; have LMc69 := sd c69; clear c69; obtain ⟨y389, hy389⟩ : ∃ y_ : List (S35), y_ = (x5_3 ++ [(⟨6, (⟨#[59]⟩ : ByteArray), 0⟩ : S35)]) := ⟨_, rfl⟩; replace H : (spec_DrawUnlex.l0 k3 y389 l0 t386 t387 t388) = some r := by first | (rw [hy389]; with_reducible exact H) | (have H2_ := (Option.bind_some _ _).symm.trans H; rw [hy389]; with_reducible exact H2_) | (have H2_ := (Option.bind_some _ _).symm.trans H; with_reducible exact H2_) | with_reducible exact H | (rw [hy389]; exact H) | exact H
           have Ny389 := sd hy389; clear hy389; have H' := sd H
           clear H; obtain ⟨Ao70, co70, eo70⟩ := Kd.R_slice HO_5.out; subst eo70
           go_wp2_with (first | ((with_reducible refine gate_callee (f := 22) rfl ?_); refine goesL_ (some 73) rfl rfl Tryz.func22 (by kernel_rfl) rfl #[.pointer (some ⟨gb338, 0, none⟩), .int .i64 2] rfl (by (try simp only [List.map_toArray, List.map_cons, List.map_nil]); first | done | rfl) ?_; (with_reducible refine (spec_l01Cur_pick.calls gb338 l0 x339001_3 x339002_3 x339003_3 2 t385 t386 t387 t388 w _ ?side1 ?side2 A67.out).mono ?_); (case side1 => exact iE HI338.out); (case side2 => exact bE HB.out); rintro e w71 ⟨rfl, hi, hb, hk⟩; refine ⟨_, rfl, ?_⟩; replace HO_5 := sd (Kd.R_mono (Kd.R_keep (IsS47.apart (show IsS47 w _ gb338 l0 x339001_3 x339002_3 x339003_3 from iE HI338.out) (rE HO_5.out) (by decide)) hk (fun _ h => h.2)) (fun _ h => h.1)); replace HB := sd (hb); replace HI338 := sd (hi); (try clear hb); (try clear hb2); (try clear hk); (try clear hi)) | ((with_reducible refine gate_builtin (b := .append) (xs := #[.tmp 76, .tmp 78]) rfl ?_); (try (refine gate_guard (by rfl) ?_; dsimp only)); at_builtin; refine Kd.R_append k35 (w0 := w) w.heap.size rfl (.tmp 76) (.tmp 78) 26 35 (.agg #[(.int .i64 0), (.string ⟨#[]⟩), (.int .i64 0)]) 32 rfl Tryz.underlying26 info35 rfl (by decide) (by omega) (.slice Ao70 x5_3.length co70) x5_3 (⟨6, (⟨#[59]⟩ : ByteArray), 0⟩ : S35) [.int .i64 6, .string (⟨#[59]⟩ : ByteArray), .int .i64 0] (fun _ => True) (fun _ => False) rfl rfl ?aP (fun _ hk => hk.elim) ?aF ?aO ?aB ?aS ?aL ?_; (case aP => exact k35_mkM _ _ _ (⟨6, (⟨#[59]⟩ : ByteArray), 0⟩ : S35)); (case aB => exact (bE HB.out)); (case aF => exact (fun _ _ => trivial)); (case aO => exact (rE HO_5.out)); (case aS => exact (bZ (bE HB.out))); (case aL => have := LMc69.out; omega); intro v390 w72 ho hb hg hat; rw [← Ny389.out] at ho; replace HI338 := sd (IsS47.grown (show IsS47 w _ gb338 l0 t386 t387 t388 from iE HI338.out) hg (IsS47.own_ne HI338.out HO_5.out (by decide))); replace HB := sd (hb); have HO391 := sd (ho); clear HO_5; clear ho hb hg hat))
           go_roundg k3
           case measure => have := HJ3.out; have := HJ9.out; have := HK3.out; omega
           case rel => exact ⟨(y389), (t386), (t387), (t388), H', ⟨by have := HJ3.out; have := HJ9.out; have := HK3.out; omega⟩, ⟨rE HO391.out⟩, ⟨iE HI338.out⟩, ⟨bE HB.out⟩⟩
          ·rw [if_neg c69] at H; exact absurd H (by simp)
         ·rw [if_neg c68] at H; have c68b0 : decide ((x5_3.length : Int) < (wrap64 (2000 + t385))) = false := decide_eq_false c68; clear c68; obtain rfl := Option.some.inj H; obtain ⟨Ao73, co73, eo73⟩ := Kd.R_slice HO_5.out; subst eo73
          go_wp2_with (first | ((with_reducible refine gate_callee (f := 22) rfl ?_); refine goesL_ (some 73) rfl rfl Tryz.func22 (by kernel_rfl) rfl #[.pointer (some ⟨gb338, 0, none⟩), .int .i64 2] rfl (by (try simp only [List.map_toArray, List.map_cons, List.map_nil]); first | done | rfl) ?_; (with_reducible refine (spec_l01Cur_pick.calls gb338 l0 x339001_3 x339002_3 x339003_3 2 t385 t386 t387 t388 w _ ?side1 ?side2 A67.out).mono ?_); (case side1 => exact iE HI338.out); (case side2 => exact bE HB.out); rintro e w74 ⟨rfl, hi, hb, hk⟩; refine ⟨_, rfl, ?_⟩; replace HO_5 := sd (Kd.R_mono (Kd.R_keep (IsS47.apart (show IsS47 w _ gb338 l0 x339001_3 x339002_3 x339003_3 from iE HI338.out) (rE HO_5.out) (by decide)) hk (fun _ h => h.2)) (fun _ h => h.1)); replace HB := sd (hb); replace HI338 := sd (hi); (try clear hb); (try clear hb2); (try clear hk); (try clear hi)))
          go_ret
          exact ⟨_, by first | rfl | (simp [*] <;> rfl), by (with_reducible repeat (first | apply rA | apply rN | apply r1)); exact HO_5.out, bE HB.out⟩
      ·rw [if_neg c65] at H; have c65b0 : (t381 == 0) = false := beq_eq_false_iff_ne.mpr c65; have c65b1 : (t381 != 0) = true := bne_iff_ne.mpr c65; have H' := sd H
       clear H
       go_wp2_with (first | ((with_reducible refine gate_callee (f := 22) rfl ?_); refine goesL_ (some 68) rfl rfl Tryz.func22 (by kernel_rfl) rfl #[.pointer (some ⟨gb338, 0, none⟩), .int .i64 2] rfl (by (try simp only [List.map_toArray, List.map_cons, List.map_nil]); first | done | rfl) ?_; (with_reducible refine (spec_l01Cur_pick.calls gb338 l0 x339001_9 x339002_9 x339003_9 2 t381 t382 t383 t384 w _ ?side1 ?side2 A64.out).mono ?_); (case side1 => exact iE HI338.out); (case side2 => exact bE HB.out); rintro e w75 ⟨rfl, hi, hb, hk⟩; refine ⟨_, rfl, ?_⟩; replace HO_5 := sd (Kd.R_mono (Kd.R_keep (IsS47.apart (show IsS47 w _ gb338 l0 x339001_9 x339002_9 x339003_9 from iE HI338.out) (rE HO_5.out) (by decide)) hk (fun _ h => h.2)) (fun _ h => h.1)); replace HB := sd (hb); replace HI338 := sd (hi); (try clear hb); (try clear hb2); (try clear hk); (try clear hi)))
       go_loopg [5, 7] kj9 (fun kq v5 v7 w' => ∃ (x5_3 : List (S35)) (x7_3 : Int) (x339001_3 : Int) (x339002_3 : Int) (x339003_3 : Int), v7 = .int .i64 x7_3 ∧ Aside0 (spec_DrawUnlex.l1 kq x5_3 x7_3 l0 x339001_3 x339002_3 x339003_3 = some r) ∧ Aside0 (kq ≤ kj9) ∧ Aside0 (Kd.R k35 35 w' w.heap.size (fun _ => True) v5 x5_3) ∧ Aside0 (IsS47 w w' gb338 l0 x339001_3 x339002_3 x339003_3) ∧ Aside0 (Below w.heap.size w w'))
       case atStart => exact ⟨(x5_9), (0), (t382), (t383), (t384), (by first | rfl | (simp [*]; done)), H', ⟨Nat.le_refl _⟩, ⟨rE HO_5.out⟩, ⟨iE HI338.out⟩, ⟨bE HB.out⟩⟩
       case round =>
        clear H'; (try clear c1); (try clear p1); (try clear q1); (try clear hx1); (try clear hf1); (try clear c2); (try clear p2); (try clear hx2); (try clear hf2); (try clear c3); (try clear p3); (try clear q3); (try clear hx3); (try clear qi3); (try clear hf3); (try clear c4); (try clear c5); (try clear p5); (try clear q5); (try clear hx5); (try clear hf5); (try clear c6); (try clear p6); (try clear c8); (try clear c8b0); (try clear c8b1); (try clear c10); (try clear c11); (try clear c14); (try clear c14b0); (try clear c14b1); (try clear c16); (try clear c16b0); (try clear c17); (try clear c17b0); (try clear c18); (try clear p18); (try clear q18); (try clear hx18); (try clear hf18); (try clear c20); (try clear c21); (try clear c22); (try clear c23); (try clear hx23); (try clear hf23); (try clear c25); (try clear c25b0); (try clear c25b1); (try clear c26); (try clear c26b0); (try clear c27); (try clear c27b0); (try clear c29); (try clear c29b0); (try clear c30); (try clear c30b0); (try clear c31); (try clear c31b0); (try clear c31b1); (try clear c31b2); (try clear c32); (try clear p32); (try clear q32); (try clear hx32); (try clear hf32); (try clear p36); (try clear q36); (try clear hx36); (try clear p37); (try clear q37); (try clear hx37); (try clear qi37); (try clear c43); (try clear c44); (try clear c44b0); (try clear c44b1); (try clear c46); (try clear c46b0); (try clear c47); (try clear c47b0); (try clear c48); (try clear c48b0); (try clear c49); (try clear c49b0); (try clear c50); (try clear p50); (try clear q50); (try clear hx50); (try clear hf50); (try clear c58); (try clear hx58); (try clear hf58); (try clear c63); (try clear c63b0); (try clear c63b1); (try clear p64); (try clear c65); (try clear c65b0); (try clear c65b1); (try clear c68); (try clear c68b0); (try clear c69); (try clear hx18_0); (try clear hx18_1); (try clear hx18_2); (try clear hx23_0); (try clear hx32_0); (try clear hx32_1); (try clear hx32_2); (try clear hx362_0); (try clear hx362_1); (try clear hx362_2); (try clear hx370_0); (try clear hx379_0); (try clear hx50_0); (try clear hx50_1); (try clear hx50_2); (try clear hx58_1); (try clear p1); (try clear p18); (try clear p2); (try clear p3); (try clear p32); (try clear p36); (try clear p362); (try clear p37); (try clear p370); (try clear p379); (try clear p5); (try clear p50); (try clear p6); (try clear q1); (try clear q18); (try clear q3); (try clear q32); (try clear q36); (try clear q362); (try clear q37); (try clear q370); (try clear q379); (try clear q5); (try clear q50); obtain ⟨x5_3, x7_3, x339001_3, x339002_3, x339003_3, rfl, HA, HK3, HO_5, HI338, HB⟩ := hrel; cases gk with
        | zero => exact absurd HA.out (by simp [spec_DrawUnlex.l1])
        | succ k3 =>
         have H := HA.out; clear HA; simp only [spec_DrawUnlex.l1] at H
         by_cases c76 : x7_3 < 40
         ·rw [if_pos c76] at H; have c76b0 : decide (x7_3 < 40) = true := decide_eq_true c76; clear c76; replace H := Option.bind_eq_some_iff.mp H; obtain ⟨⟨t392, t393, t394, t395⟩, A770, H⟩ := H; replace H : ((spec_l01Times.f k3 (⟨#[120]⟩ : ByteArray) (wrap64 (190 + t392))).bind fun t396 => (if x5_3.length < 4398046511104 then (spec_DrawUnlex.l1 k3 (x5_3 ++ [(⟨5, t396, 0⟩ : S35)]) (wrap64 (x7_3 + 1)) l0 t393 t394 t395) else (none))) = some r := H; have A77 := sd A770; clear A770; replace H := Option.bind_eq_some_iff.mp H; obtain ⟨t396, A780, H⟩ := H; replace H : (if x5_3.length < 4398046511104 then (spec_DrawUnlex.l1 k3 (x5_3 ++ [(⟨5, t396, 0⟩ : S35)]) (wrap64 (x7_3 + 1)) l0 t393 t394 t395) else (none)) = some r := H; have A78 := sd A780; clear A780
          by_cases c79 : x5_3.length < 4398046511104
          ·rw [if_pos c79] at H; have LMc79 := sd c79; clear c79; obtain ⟨y397, hy397⟩ : ∃ y_ : List (S35), y_ = (x5_3 ++ [(⟨5, t396, 0⟩ : S35)]) := ⟨_, rfl⟩; replace H : (spec_DrawUnlex.l1 k3 y397 (wrap64 (x7_3 + 1)) l0 t393 t394 t395) = some r := by first | (rw [hy397]; with_reducible exact H) | (have H2_ := (Option.bind_some _ _).symm.trans H; rw [hy397]; with_reducible exact H2_) | (have H2_ := (Option.bind_some _ _).symm.trans H; with_reducible exact H2_) | with_reducible exact H | (rw [hy397]; exact H) | exact H
           have Ny397 := sd hy397; clear hy397; have H' := sd H
           clear H
           go_wp2_with (first | ((with_reducible refine gate_callee (f := 22) rfl ?_); refine goesL_ (some 86) rfl rfl Tryz.func22 (by kernel_rfl) rfl #[.pointer (some ⟨gb338, 0, none⟩), .int .i64 20] rfl (by (try simp only [List.map_toArray, List.map_cons, List.map_nil]); first | done | rfl) ?_; (with_reducible refine (spec_l01Cur_pick.calls gb338 l0 x339001_3 x339002_3 x339003_3 20 t392 t393 t394 t395 w _ ?side1 ?side2 A77.out).mono ?_); (case side1 => exact iE HI338.out); (case side2 => exact bE HB.out); rintro e w80 ⟨rfl, hi, hb, hk⟩; refine ⟨_, rfl, ?_⟩; replace HO_5 := sd (Kd.R_mono (Kd.R_keep (IsS47.apart (show IsS47 w _ gb338 l0 x339001_3 x339002_3 x339003_3 from iE HI338.out) (rE HO_5.out) (by decide)) hk (fun _ h => h.2)) (fun _ h => h.1)); replace HB := sd (hb); replace HI338 := sd (hi); (try clear hb); (try clear hb2); (try clear hk); (try clear hi)) | ((with_reducible refine gate_callee (f := 23) rfl ?_); refine goesL_ (some 88) rfl rfl Tryz.func23 (by kernel_rfl) rfl #[.string (⟨#[120]⟩ : ByteArray), .int .i64 (wrap64 (190 + t392))] rfl (by (try simp only [List.map_toArray, List.map_cons, List.map_nil]); first | done | rfl) ?_; (with_reducible refine (spec_l01Times.calls k3 (⟨#[120]⟩ : ByteArray) (wrap64 (190 + t392)) t396 _ A78.out).mono ?_); rintro e w81 ⟨rfl, hb⟩; refine ⟨_, rfl, ?_⟩; replace HO_5 := sd (Kd.R_below (rE HO_5.out) hb); replace HB := sd (bT (bE HB.out) hb); replace HI338 := sd (IsS47.below (iE HI338.out) hb); (try clear hb); (try clear hb2); (try clear hk); (try clear hi)) | ((with_reducible refine gate_builtin (b := .append) (xs := #[.tmp 84, .tmp 90]) rfl ?_); (try (refine gate_guard (by rfl) ?_; dsimp only)); at_builtin; refine Kd.R_append k35 (w0 := w) w.heap.size rfl (.tmp 84) (.tmp 90) 26 35 (.agg #[(.int .i64 0), (.string ⟨#[]⟩), (.int .i64 0)]) 32 rfl Tryz.underlying26 info35 rfl (by decide) (by omega) u5 x5_3 (⟨5, t396, 0⟩ : S35) [.int .i64 5, .string t396, .int .i64 0] (fun _ => True) (fun _ => False) rfl rfl ?aP (fun _ hk => hk.elim) ?aF ?aO ?aB ?aS ?aL ?_; (case aP => exact k35_mkM _ _ _ (⟨5, t396, 0⟩ : S35)); (case aB => exact (bE HB.out)); (case aF => exact (fun _ _ => trivial)); (case aO => exact (rE HO_5.out)); (case aS => exact (bZ (bE HB.out))); (case aL => have := LMc79.out; omega); intro v398 w82 ho hb hg hat; rw [← Ny397.out] at ho; replace HI338 := sd (IsS47.grown (show IsS47 w _ gb338 l0 t393 t394 t395 from iE HI338.out) hg (IsS47.own_ne HI338.out HO_5.out (by decide))); replace HB := sd (hb); have HO399 := sd (ho); clear HO_5; clear ho hb hg hat))
           go_roundg k3
           case measure => have := HJ3.out; have := HJ9.out; have := HK3.out; omega
           case rel => exact ⟨(y397), (wrap64 (x7_3 + 1)), (t393), (t394), (t395), (by first | rfl | (simp [*]; done)), H', ⟨by have := HJ3.out; have := HJ9.out; have := HK3.out; omega⟩, ⟨rE HO399.out⟩, ⟨iE HI338.out⟩, ⟨bE HB.out⟩⟩
          ·rw [if_neg c79] at H; exact absurd H (by simp)
         ·rw [if_neg c76] at H; have c76b0 : decide (x7_3 < 40) = false := decide_eq_false c76; clear c76; obtain rfl := Option.some.inj H; go_wp2
          go_ret
          exact ⟨_, by first | rfl | (simp [*] <;> rfl), by (with_reducible repeat (first | apply rA | apply rN | apply r1)); exact HO_5.out, bE HB.out⟩
     ·rw [if_neg c63] at H; have c63b0 : (t339 == 2) = false := beq_eq_false_iff_ne.mpr c63; have c63b1 : (t339 != 2) = true := bne_iff_ne.mpr c63; obtain rfl := Option.some.inj H; go_wp2
      go_ret
      exact ⟨_, by first | rfl | (simp [*] <;> rfl), by (with_reducible repeat (first | apply rA | apply rN | apply r1)); exact HO_5.out, bE HB.out⟩

end Go.Proofs.YtackifpnpkbddaaGreatDoor.QFnLexed
