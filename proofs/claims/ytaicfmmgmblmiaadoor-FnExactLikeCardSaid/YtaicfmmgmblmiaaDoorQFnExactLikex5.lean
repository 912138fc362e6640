-- Laid by a program of the session's own (wip/tools/mp.py); not the kit's print.
import Derived.Test.YtaicfmmgmblmiaaDoorQFnExactLikex0
namespace Go.Proofs.YtaicfmmgmblmiaaDoor.QFnExactLike
open Go.RowKit Go.Proofs.YtaicfmmgmblmiaaDoorW.PrintWords Go.Proofs.YtaicfmmgmblmiaaDoorW.PrintLast Go.Proofs.YtaicfmmgmblmiaaDoorW.PrintMore Go.Proofs.YtaicfmmgmblmiaaDoorExt Go.Proofs.YtaicfmmgmblmiaaDoorRunes
attribute [local go_sem] max2_int min2_int max_two min_two max_three min_three max_four min_four   -- for this text's walks alone
set_option linter.unusedVariables false
set_option linter.unusedSimpArgs false

/-! ### impl_like: function 30 -/
mutual
def impl_like.l0 : Nat → List Int → List Int → List (S71) → Int → Option (Bool)
 | 0, _, _, _, _ => none
 | k + 1, x0, x1, x5, x6 => if x6 < (x1.length : Int) then (if 0 ≤ x6 then (if (rd x1 x6) = 37 then (if x5.length < 17592186044416 then (impl_like.l0 k x0 x1 (x5 ++ [(⟨0, 37⟩ : S71)]) (wrap64 (x6 + 1))) else (none)) else (if (rd x1 x6) = 95 then (if x5.length < 17592186044416 then (impl_like.l0 k x0 x1 (x5 ++ [(⟨0, 95⟩ : S71)]) (wrap64 (x6 + 1))) else (none)) else (if (rd x1 x6) = 92 then (if (wrap64 (x6 + 1)) < (x1.length : Int) then (if 0 ≤ (wrap64 (x6 + 1)) then (if x5.length < 17592186044416 then (impl_like.l0 k x0 x1 (x5 ++ [(⟨rd x1 (wrap64 (x6 + 1)), 0⟩ : S71)]) (wrap64 ((wrap64 (x6 + 1)) + 1))) else (none)) else (none)) else (if x5.length < 17592186044416 then (impl_like.l0 k x0 x1 (x5 ++ [(⟨rd x1 x6, 0⟩ : S71)]) (wrap64 (x6 + 1))) else (none))) else (if x5.length < 17592186044416 then (impl_like.l0 k x0 x1 (x5 ++ [(⟨rd x1 x6, 0⟩ : S71)]) (wrap64 (x6 + 1))) else (none))))) else (none)) else (if 0 ≤ (wrap64 ((x5.length : Int) + 1)) then (if (wrap64 ((x5.length : Int) + 1) : Int).toNat ≤ 281474976710656 then ((some (List.replicate (wrap64 ((x5.length : Int) + 1) : Int).toNat false : List Bool)).bind fun y235 => (if 0 < (y235.length : Int) then (impl_like.l1 k x0 x5 (y235.set (0 : Int).toNat true) x5 (x5.length : Int) 0) else (none))) else (none)) else (none))
def impl_like.l1 : Nat → List Int → List (S71) → List Bool → List (S71) → Int → Int → Option (Bool)
 | 0, _, _, _, _, _, _ => none
 | k + 1, x0, x5, x7, x78, x79, x80 => if x80 < x79 then (if 0 ≤ x80 then (if x80 < (x78.length : Int) then (if x80 < (x7.length : Int) then (if rdOf false x7 x80 = true then (if 0 ≤ (wrap64 (x80 + 1)) then (if (wrap64 (x80 + 1)) < (x7.length : Int) then (impl_like.l1 k x0 x5 (x7.set ((wrap64 (x80 + 1)) : Int).toNat (((rd_T71 x78 x80).f1) == 37)) x78 x79 (wrap64 (x80 + 1))) else (none)) else (none)) else (if 0 ≤ (wrap64 (x80 + 1)) then (if (wrap64 (x80 + 1)) < (x7.length : Int) then (impl_like.l1 k x0 x5 (x7.set ((wrap64 (x80 + 1)) : Int).toNat false) x78 x79 (wrap64 (x80 + 1))) else (none)) else (none))) else (none)) else (none)) else (none)) else (impl_like.l2 k x5 x7 x0 (x0.length : Int) 0)
def impl_like.l2 : Nat → List (S71) → List Bool → List Int → Int → Int → Option (Bool)
 | 0, _, _, _, _, _ => none
 | k + 1, x5, x7, x99, x100, x101 => if x101 < x100 then (if 0 ≤ x101 then (if x101 < (x99.length : Int) then (if 0 ≤ (wrap64 ((x5.length : Int) + 1)) then (if (wrap64 ((x5.length : Int) + 1) : Int).toNat ≤ 281474976710656 then (impl_like.l3 k x5 x7 (rd x99 x101) (List.replicate (wrap64 ((x5.length : Int) + 1) : Int).toNat false) x99 x100 x101 x5 (x5.length : Int) 0) else (none)) else (none)) else (none)) else (none)) else (if 0 ≤ (x5.length : Int) then (if (x5.length : Int) < (x7.length : Int) then (some (rdOf false x7 (x5.length : Int))) else (none)) else (none))
def impl_like.l3 : Nat → List (S71) → List Bool → Int → List Bool → List Int → Int → Int → List (S71) → Int → Int → Option (Bool)
 | 0, _, _, _, _, _, _, _, _, _, _ => none
 | k + 1, x5, x7, x11, x12, x99, x100, x101, x109, x110, x111 => if x111 < x110 then (if 0 ≤ x111 then (if x111 < (x109.length : Int) then (if ((rd_T71 x109 x111).f1) = 37 then (if x111 < (x12.length : Int) then (if rdOf false x12 x111 = true then (if 0 ≤ (wrap64 (x111 + 1)) then (if (wrap64 (x111 + 1)) < (x12.length : Int) then (impl_like.l3 k x5 x7 x11 (x12.set ((wrap64 (x111 + 1)) : Int).toNat true) x99 x100 x101 x109 x110 (wrap64 (x111 + 1))) else (none)) else (none)) else (if 0 ≤ (wrap64 (x111 + 1)) then (if (wrap64 (x111 + 1)) < (x7.length : Int) then (if (wrap64 (x111 + 1)) < (x12.length : Int) then (impl_like.l3 k x5 x7 x11 (x12.set ((wrap64 (x111 + 1)) : Int).toNat (rdOf false x7 (wrap64 (x111 + 1)))) x99 x100 x101 x109 x110 (wrap64 (x111 + 1))) else (none)) else (none)) else (none))) else (none)) else (if ((rd_T71 x109 x111).f1) = 95 then (if x111 < (x7.length : Int) then (if 0 ≤ (wrap64 (x111 + 1)) then (if (wrap64 (x111 + 1)) < (x12.length : Int) then (impl_like.l3 k x5 x7 x11 (x12.set ((wrap64 (x111 + 1)) : Int).toNat (rdOf false x7 x111)) x99 x100 x101 x109 x110 (wrap64 (x111 + 1))) else (none)) else (none)) else (none)) else (if x111 < (x7.length : Int) then (if rdOf false x7 x111 = true then (if 0 ≤ (wrap64 (x111 + 1)) then (if (wrap64 (x111 + 1)) < (x12.length : Int) then (impl_like.l3 k x5 x7 x11 (x12.set ((wrap64 (x111 + 1)) : Int).toNat (((rd_T71 x109 x111).f0) == x11)) x99 x100 x101 x109 x110 (wrap64 (x111 + 1))) else (none)) else (none)) else (if 0 ≤ (wrap64 (x111 + 1)) then (if (wrap64 (x111 + 1)) < (x12.length : Int) then (impl_like.l3 k x5 x7 x11 (x12.set ((wrap64 (x111 + 1)) : Int).toNat false) x99 x100 x101 x109 x110 (wrap64 (x111 + 1))) else (none)) else (none))) else (none)))) else (none)) else (none)) else (impl_like.l2 k x5 x12 x99 x100 (wrap64 (x101 + 1)))
end
def impl_like.f (k : Nat) (l0 : List Int) (l1 : List Int) : Option (Bool) := impl_like.l0 k l0 l1 ([] : List (S71)) 0
theorem impl_like.mono_l : ∀ k, (∀ y0 y1 y2 y3, LeO (impl_like.l0 k y0 y1 y2 y3) (impl_like.l0 (k + 1) y0 y1 y2 y3)) ∧ (∀ y0 y1 y2 y3 y4 y5, LeO (impl_like.l1 k y0 y1 y2 y3 y4 y5) (impl_like.l1 (k + 1) y0 y1 y2 y3 y4 y5)) ∧ (∀ y0 y1 y2 y3 y4, LeO (impl_like.l2 k y0 y1 y2 y3 y4) (impl_like.l2 (k + 1) y0 y1 y2 y3 y4)) ∧ (∀ y0 y1 y2 y3 y4 y5 y6 y7 y8 y9, LeO (impl_like.l3 k y0 y1 y2 y3 y4 y5 y6 y7 y8 y9) (impl_like.l3 (k + 1) y0 y1 y2 y3 y4 y5 y6 y7 y8 y9))
 | 0 => ⟨fun _ _ _ _ r h => by simp [impl_like.l0] at h, fun _ _ _ _ _ _ r h => by simp [impl_like.l1] at h, fun _ _ _ _ _ r h => by simp [impl_like.l2] at h, fun _ _ _ _ _ _ _ _ _ _ r h => by simp [impl_like.l3] at h⟩
 | k + 1 => by
  obtain ⟨ih0, ih1, ih2, ih3⟩ := impl_like.mono_l k
  refine ⟨?_, ?_, ?_, ?_⟩
  ·intro y0 y1 y2 y3
   unfold impl_like.l0
   repeat' first
   | (with_reducible exact ih0 _ _ _ _)
   | (with_reducible exact ih1 _ _ _ _ _ _)
   | (with_reducible exact ih2 _ _ _ _ _)
   | (with_reducible exact ih3 _ _ _ _ _ _ _ _ _ _)
   | (with_reducible exact LeO.refl _)
   | (with_reducible exact LeO.none _)
   | (with_reducible refine LeO.ite ?_ ?_)
   | (with_reducible refine LeO.bind ?_ (fun _ => ?_))
   | exact ih0 _ _ _ _
   | exact ih1 _ _ _ _ _ _
   | exact ih2 _ _ _ _ _
   | exact ih3 _ _ _ _ _ _ _ _ _ _
   | exact LeO.none _
   | refine LeO.ite ?_ ?_
   | refine LeO.bind ?_ (fun _ => ?_)
  ·intro y0 y1 y2 y3 y4 y5
   unfold impl_like.l1
   repeat' first
   | (with_reducible exact ih0 _ _ _ _)
   | (with_reducible exact ih1 _ _ _ _ _ _)
   | (with_reducible exact ih2 _ _ _ _ _)
   | (with_reducible exact ih3 _ _ _ _ _ _ _ _ _ _)
   | (with_reducible exact LeO.refl _)
   | (with_reducible exact LeO.none _)
   | (with_reducible refine LeO.ite ?_ ?_)
   | (with_reducible refine LeO.bind ?_ (fun _ => ?_))
   | exact ih0 _ _ _ _
   | exact ih1 _ _ _ _ _ _
   | exact ih2 _ _ _ _ _
   | exact ih3 _ _ _ _ _ _ _ _ _ _
   | exact LeO.none _
   | refine LeO.ite ?_ ?_
   | refine LeO.bind ?_ (fun _ => ?_)
  ·intro y0 y1 y2 y3 y4
   unfold impl_like.l2
   repeat' first
   | (with_reducible exact ih0 _ _ _ _)
   | (with_reducible exact ih1 _ _ _ _ _ _)
   | (with_reducible exact ih2 _ _ _ _ _)
   | (with_reducible exact ih3 _ _ _ _ _ _ _ _ _ _)
   | (with_reducible exact LeO.refl _)
   | (with_reducible exact LeO.none _)
   | (with_reducible refine LeO.ite ?_ ?_)
   | (with_reducible refine LeO.bind ?_ (fun _ => ?_))
   | exact ih0 _ _ _ _
   | exact ih1 _ _ _ _ _ _
   | exact ih2 _ _ _ _ _
   | exact ih3 _ _ _ _ _ _ _ _ _ _
   | exact LeO.none _
   | refine LeO.ite ?_ ?_
   | refine LeO.bind ?_ (fun _ => ?_)
  ·intro y0 y1 y2 y3 y4 y5 y6 y7 y8 y9
   unfold impl_like.l3
   repeat' first
   | (with_reducible exact ih0 _ _ _ _)
   | (with_reducible exact ih1 _ _ _ _ _ _)
   | (with_reducible exact ih2 _ _ _ _ _)
   | (with_reducible exact ih3 _ _ _ _ _ _ _ _ _ _)
   | (with_reducible exact LeO.refl _)
   | (with_reducible exact LeO.none _)
   | (with_reducible refine LeO.ite ?_ ?_)
   | (with_reducible refine LeO.bind ?_ (fun _ => ?_))
   | exact ih0 _ _ _ _
   | exact ih1 _ _ _ _ _ _
   | exact ih2 _ _ _ _ _
   | exact ih3 _ _ _ _ _ _ _ _ _ _
   | exact LeO.none _
   | refine LeO.ite ?_ ?_
   | refine LeO.bind ?_ (fun _ => ?_)
theorem impl_like.mono : ∀ a0 a1 k, LeO (impl_like.f k a0 a1) (impl_like.f (k + 1) a0 a1) := by
 intro a0 a1 k
 obtain ⟨ih0, ih1, ih2, ih3⟩ := impl_like.mono_l k
 unfold impl_like.f
 repeat' first
   | (with_reducible exact ih0 _ _ _ _)
   | (with_reducible exact ih1 _ _ _ _ _ _)
   | (with_reducible exact ih2 _ _ _ _ _)
   | (with_reducible exact ih3 _ _ _ _ _ _ _ _ _ _)
   | (with_reducible exact LeO.refl _)
   | (with_reducible exact LeO.none _)
   | (with_reducible refine LeO.ite ?_ ?_)
   | (with_reducible refine LeO.bind ?_ (fun _ => ?_))
   | exact ih0 _ _ _ _
   | exact ih1 _ _ _ _ _ _
   | exact ih2 _ _ _ _ _
   | exact ih3 _ _ _ _ _ _ _ _ _ _
   | exact LeO.none _
   | refine LeO.ite ?_ ?_
   | refine LeO.bind ?_ (fun _ => ?_)
set_option maxHeartbeats 8000000 in
set_option maxRecDepth 100000 in
theorem impl_like.calls (k : Nat) (A0 : Option Addr) (c0 : Nat) (l0 : List Int) (A1 : Option Addr) (c1 : Nat) (l1 : List Int) (r : Bool) (w : World) (hr0 : Kd.C (Kd.int .i32) w A0 l0.length l0) (hc0 : l0.length ≤ c0) (hr1 : Kd.C (Kd.int .i32) w A1 l1.length l1) (hc1 : l1.length ≤ c1) (h : impl_like.f k l0 l1 = some r) :
  Calls Tryd.prog 30 #[.slice A0 l0.length c0, .slice A1 l1.length c1] w fun e w' => e = .returned (.bool r) ∧ Below w.heap.size w w' := by
 have hu71 := Tryd.underlying71
 have HR0 := Aside0.mk hr0
 have HC0 := Aside0.mk hc0
 clear hr0 hc0
 have HR1 := Aside0.mk hr1
 have HC1 := Aside0.mk hc1
 clear hr1 hc1
 have HB := Aside0.mk (Below.refl w.heap.size w)
 have H : (impl_like.l0 k l0 l1 ([] : List (S71)) 0) = some r := h
 clear h
 have H' := Aside0.mk H
 clear H
 go_enter Tryd.func30, Tryd.ntmps30
 go_wp2
 go_loopg [5, 6] k (fun kq v5 v6 w' => ∃ (x5_1 : List (S71)) (x6_1 : Int), v6 = .int .i64 x6_1 ∧ Aside0 (impl_like.l0 kq l0 l1 x5_1 x6_1 = some r) ∧ Aside0 (kq ≤ k) ∧ Aside0 (Kd.R k71 71 w' w.heap.size (fun _ => True) v5 x5_1) ∧ Aside0 (Below w.heap.size w w'))
 case atStart => exact ⟨(([] : List (S71))), (0), (by first | rfl | (simp; done) | (simp [*]; done)), H', ⟨Nat.le_refl _⟩, ⟨by first | exact Kd.R_nil _ _ _ _ _ | exact Kd.N_nil _ _ _ _ _ | exact Kd.V_nil _ _ _ _ _ | exact Kd.Q_nil _ _ _ _ _ | exact Kd.S_nil _ _ _ _ _⟩, ⟨by repeat (first | (with_reducible first | exact HB.out | apply below_alloc | apply pw_below_drewN | apply below_drew1) | exact HB.out)⟩⟩
 case round =>
  clear H'
  try clear c1
  try clear p2
  obtain ⟨x5_1, x6_1, rfl, HA, HK1, HO_5, HB⟩ := hrel
  cases gk with
  | zero => exact absurd HA.out (by simp [impl_like.l0])
  | succ k1 =>
   have H := HA.out
   clear HA
   simp only [impl_like.l0] at H
   by_cases c3 : x6_1 < (l1.length : Int)
   ·rw [if_pos c3] at H
    have c3b0 : decide (x6_1 < (l1.length : Int)) = true := decide_eq_true c3
    clear c3
    by_cases c4 : 0 ≤ x6_1
    ·rw [if_pos c4] at H
     have c4b0 : decide (0 ≤ x6_1) = true := decide_eq_true c4
     clear c4
     by_cases c5 : (rd l1 x6_1) = 37
     ·rw [if_pos c5] at H
      have c5b0 : ((rd l1 x6_1) == 37) = true := beq_iff_eq.mpr c5
      have c5b1 : ((rd l1 x6_1) != 37) = false := bne_eq_false_iff_eq.mpr c5
      clear c5
      by_cases c6 : x5_1.length < 17592186044416
      ·rw [if_pos c6] at H
       have LMc6 := Aside0.mk c6
       clear c6
       obtain ⟨y215, hy215⟩ : ∃ y_ : List (S71), y_ = (x5_1 ++ [(⟨0, 37⟩ : S71)]) := ⟨_, rfl⟩
       replace H : (impl_like.l0 k1 l0 l1 y215 (wrap64 (x6_1 + 1))) = some r := by first | (rw [hy215]; with_reducible exact H) | (have H2_ := (Option.bind_some _ _).symm.trans H; rw [hy215]; with_reducible exact H2_) | (have H2_ := (Option.bind_some _ _).symm.trans H; with_reducible exact H2_) | with_reducible exact H | (rw [hy215]; exact H) | exact H
       have Ny215 := Aside0.mk hy215
       clear hy215
       have H' := Aside0.mk H
       clear H
       have p214 : 0 ≤ (x6_1 : Int) := of_decide_eq_true (by first | (with_reducible assumption) | assumption)
       have q214 : x6_1 < (l1.length : Int) := of_decide_eq_true (by first | (with_reducible assumption) | assumption)
       obtain ⟨ad214, e214, hx214_0⟩ := Kd.at_int HR1.out x6_1 p214 q214
       cases e214
       replace hx214_0 := (HB.out.cell (World.block_lt_of_cell? w _ hx214_0)).trans hx214_0
       replace p214 := eq_true p214
       replace q214 := eq_true q214
       go_wp2_with (first | ((with_reducible refine gate_builtin (b := .append) (xs := #[.tmp 35, .tmp 37]) rfl ?_); (try (refine gate_guard (by rfl) ?_; dsimp only)); at_builtin; refine Kd.R_append k71 (w0 := w) w.heap.size rfl (.tmp 35) (.tmp 37) 69 71 (.agg #[(.int .i32 0), (.int .u8 0)]) 8 rfl Tryd.underlying69 info71 rfl (by decide) (by omega) u5 x5_1 (⟨0, 37⟩ : S71) [.int .i32 0, .int .u8 37] (fun _ => True) (fun _ => False) rfl rfl ?aP (fun _ hk => hk.elim) ?aF ?aO ?aB ?aS ?aL ?_; (case aP => exact k71_mkM _ _ _ (⟨0, 37⟩ : S71)); (case aB => exact (by repeat (first | (with_reducible first | exact HB.out | apply below_alloc | apply pw_below_drewN | apply below_drew1) | exact HB.out))); (case aF => exact (fun _ _ => trivial)); (case aO => exact (by (with_reducible repeat (first | apply Kd.R_alloc | apply Kd.R_drewN | apply Kd.R_drew)); exact HO_5.out)); (case aS => exact (below_size (by repeat (first | (with_reducible first | exact HB.out | apply below_alloc | apply pw_below_drewN | apply below_drew1) | exact HB.out)))); (case aL => have := LMc6.out; omega); intro v216 w7 ho hb hg hat; rw [← Ny215.out] at ho; have n0_ := Aside0.mk (hb); have n1_ := Aside0.mk (ho); clear HB; clear HO_5; have HB := n0_; have HO217 := n1_; clear n0_ n1_; clear ho hb hg hat))
       go_roundg k1
       case measure => have := HK1.out; omega
       case rel => exact ⟨(y215), (wrap64 (x6_1 + 1)), (by first | rfl | (simp; done) | (simp [*]; done)), H', ⟨by have := HK1.out; omega⟩, ⟨by (with_reducible repeat (first | apply Kd.R_alloc | apply Kd.R_drewN | apply Kd.R_drew)); exact HO217.out⟩, ⟨by repeat (first | (with_reducible first | exact HB.out | apply below_alloc | apply pw_below_drewN | apply below_drew1) | exact HB.out)⟩⟩
      ·rw [if_neg c6] at H
       exact absurd H (by simp)
     ·rw [if_neg c5] at H
      have c5b0 : ((rd l1 x6_1) == 37) = false := beq_eq_false_iff_ne.mpr c5
      have c5b1 : ((rd l1 x6_1) != 37) = true := bne_iff_ne.mpr c5
      by_cases c8 : (rd l1 x6_1) = 95
      ·rw [if_pos c8] at H
       have c8b0 : ((rd l1 x6_1) == 95) = true := beq_iff_eq.mpr c8
       have c8b1 : ((rd l1 x6_1) != 95) = false := bne_eq_false_iff_eq.mpr c8
       clear c8
       by_cases c9 : x5_1.length < 17592186044416
       ·rw [if_pos c9] at H
        have LMc9 := Aside0.mk c9
        clear c9
        obtain ⟨y219, hy219⟩ : ∃ y_ : List (S71), y_ = (x5_1 ++ [(⟨0, 95⟩ : S71)]) := ⟨_, rfl⟩
        replace H : (impl_like.l0 k1 l0 l1 y219 (wrap64 (x6_1 + 1))) = some r := by first | (rw [hy219]; with_reducible exact H) | (have H2_ := (Option.bind_some _ _).symm.trans H; rw [hy219]; with_reducible exact H2_) | (have H2_ := (Option.bind_some _ _).symm.trans H; with_reducible exact H2_) | with_reducible exact H | (rw [hy219]; exact H) | exact H
        have Ny219 := Aside0.mk hy219
        clear hy219
        have H' := Aside0.mk H
        clear H
        have p214 : 0 ≤ (x6_1 : Int) := of_decide_eq_true (by first | (with_reducible assumption) | assumption)
        have q214 : x6_1 < (l1.length : Int) := of_decide_eq_true (by first | (with_reducible assumption) | assumption)
        obtain ⟨ad214, e214, hx214_0⟩ := Kd.at_int HR1.out x6_1 p214 q214
        cases e214
        replace hx214_0 := (HB.out.cell (World.block_lt_of_cell? w _ hx214_0)).trans hx214_0
        replace p214 := eq_true p214
        replace q214 := eq_true q214
        have p218 : 0 ≤ (x6_1 : Int) := of_decide_eq_true (by first | (with_reducible assumption) | assumption)
        have q218 : x6_1 < (l1.length : Int) := of_decide_eq_true (by first | (with_reducible assumption) | assumption)
        obtain ⟨ad218, e218, hx218_0⟩ := Kd.at_int HR1.out x6_1 p218 q218
        obtain rfl : ad214 = ad218 := (by injection e218)
        replace hx218_0 := (HB.out.cell (World.block_lt_of_cell? w _ hx218_0)).trans hx218_0
        replace p218 := eq_true p218
        replace q218 := eq_true q218
        go_wp2_with (first | ((with_reducible refine gate_builtin (b := .append) (xs := #[.tmp 45, .tmp 47]) rfl ?_); (try (refine gate_guard (by rfl) ?_; dsimp only)); at_builtin; refine Kd.R_append k71 (w0 := w) w.heap.size rfl (.tmp 45) (.tmp 47) 69 71 (.agg #[(.int .i32 0), (.int .u8 0)]) 8 rfl Tryd.underlying69 info71 rfl (by decide) (by omega) u5 x5_1 (⟨0, 95⟩ : S71) [.int .i32 0, .int .u8 95] (fun _ => True) (fun _ => False) rfl rfl ?aP (fun _ hk => hk.elim) ?aF ?aO ?aB ?aS ?aL ?_; (case aP => exact k71_mkM _ _ _ (⟨0, 95⟩ : S71)); (case aB => exact (by repeat (first | (with_reducible first | exact HB.out | apply below_alloc | apply pw_below_drewN | apply below_drew1) | exact HB.out))); (case aF => exact (fun _ _ => trivial)); (case aO => exact (by (with_reducible repeat (first | apply Kd.R_alloc | apply Kd.R_drewN | apply Kd.R_drew)); exact HO_5.out)); (case aS => exact (below_size (by repeat (first | (with_reducible first | exact HB.out | apply below_alloc | apply pw_below_drewN | apply below_drew1) | exact HB.out)))); (case aL => have := LMc9.out; omega); intro v220 w10 ho hb hg hat; rw [← Ny219.out] at ho; have n0_ := Aside0.mk (hb); have n1_ := Aside0.mk (ho); clear HB; clear HO_5; have HB := n0_; have HO221 := n1_; clear n0_ n1_; clear ho hb hg hat))
        go_roundg k1
        case measure => have := HK1.out; omega
        case rel => exact ⟨(y219), (wrap64 (x6_1 + 1)), (by first | rfl | (simp; done) | (simp [*]; done)), H', ⟨by have := HK1.out; omega⟩, ⟨by (with_reducible repeat (first | apply Kd.R_alloc | apply Kd.R_drewN | apply Kd.R_drew)); exact HO221.out⟩, ⟨by repeat (first | (with_reducible first | exact HB.out | apply below_alloc | apply pw_below_drewN | apply below_drew1) | exact HB.out)⟩⟩
       ·rw [if_neg c9] at H
        exact absurd H (by simp)
      ·rw [if_neg c8] at H
       have c8b0 : ((rd l1 x6_1) == 95) = false := beq_eq_false_iff_ne.mpr c8
       have c8b1 : ((rd l1 x6_1) != 95) = true := bne_iff_ne.mpr c8
       by_cases c11 : (rd l1 x6_1) = 92
       ·rw [if_pos c11] at H
        have c11b0 : ((rd l1 x6_1) == 92) = true := beq_iff_eq.mpr c11
        have c11b1 : ((rd l1 x6_1) != 92) = false := bne_eq_false_iff_eq.mpr c11
        clear c11
        by_cases c12 : (wrap64 (x6_1 + 1)) < (l1.length : Int)
        ·rw [if_pos c12] at H
         have c12b0 : decide ((wrap64 (x6_1 + 1)) < (l1.length : Int)) = true := decide_eq_true c12
         clear c12
         obtain ⟨ji13, hji13⟩ : ∃ j_ : Int, (wrap64 (x6_1 + 1)) = j_ := ⟨_, rfl⟩
         replace H : (if 0 ≤ (ji13) then (if x5_1.length < 17592186044416 then (impl_like.l0 k1 l0 l1 (x5_1 ++ [(⟨rd l1 (ji13), 0⟩ : S71)]) (wrap64 ((ji13) + 1))) else (none)) else (none)) = some r := by first | (rw [hji13] at H; exact H) | (simp only [hji13] at H ⊢; exact H)
         (try rw [hji13] at c12b0)
         have hji13w : (IntKind.i64.wrap (x6_1 + 1)) = ji13 := (i64_w _).trans hji13
         by_cases c14 : 0 ≤ (ji13)
         ·rw [if_pos c14] at H
          have c14b0 : decide (0 ≤ (ji13)) = true := decide_eq_true c14
          clear c14
          by_cases c15 : x5_1.length < 17592186044416
          ·rw [if_pos c15] at H
           have LMc15 := Aside0.mk c15
           clear c15
           obtain ⟨y224, hy224⟩ : ∃ y_ : List (S71), y_ = (x5_1 ++ [(⟨rd l1 (ji13), 0⟩ : S71)]) := ⟨_, rfl⟩
           replace H : (impl_like.l0 k1 l0 l1 y224 (wrap64 ((ji13) + 1))) = some r := by first | (rw [hy224]; with_reducible exact H) | (have H2_ := (Option.bind_some _ _).symm.trans H; rw [hy224]; with_reducible exact H2_) | (have H2_ := (Option.bind_some _ _).symm.trans H; with_reducible exact H2_) | with_reducible exact H | (rw [hy224]; exact H) | exact H
           have Ny224 := Aside0.mk hy224
           clear hy224
           have H' := Aside0.mk H
           clear H
           have p214 : 0 ≤ (x6_1 : Int) := of_decide_eq_true (by first | (with_reducible assumption) | assumption)
           have q214 : x6_1 < (l1.length : Int) := of_decide_eq_true (by first | (with_reducible assumption) | assumption)
           obtain ⟨ad214, e214, hx214_0⟩ := Kd.at_int HR1.out x6_1 p214 q214
           cases e214
           replace hx214_0 := (HB.out.cell (World.block_lt_of_cell? w _ hx214_0)).trans hx214_0
           replace p214 := eq_true p214
           replace q214 := eq_true q214
           have p218 : 0 ≤ (x6_1 : Int) := of_decide_eq_true (by first | (with_reducible assumption) | assumption)
           have q218 : x6_1 < (l1.length : Int) := of_decide_eq_true (by first | (with_reducible assumption) | assumption)
           obtain ⟨ad218, e218, hx218_0⟩ := Kd.at_int HR1.out x6_1 p218 q218
           obtain rfl : ad214 = ad218 := (by injection e218)
           replace hx218_0 := (HB.out.cell (World.block_lt_of_cell? w _ hx218_0)).trans hx218_0
           replace p218 := eq_true p218
           replace q218 := eq_true q218
           have p222 : 0 ≤ (x6_1 : Int) := of_decide_eq_true (by first | (with_reducible assumption) | assumption)
           have q222 : x6_1 < (l1.length : Int) := of_decide_eq_true (by first | (with_reducible assumption) | assumption)
           obtain ⟨ad222, e222, hx222_0⟩ := Kd.at_int HR1.out x6_1 p222 q222
           obtain rfl : ad214 = ad222 := (by injection e222)
           replace hx222_0 := (HB.out.cell (World.block_lt_of_cell? w _ hx222_0)).trans hx222_0
           replace p222 := eq_true p222
           replace q222 := eq_true q222
           have p223 : 0 ≤ ((ji13) : Int) := of_decide_eq_true (by first | (with_reducible assumption) | assumption)
           have q223 : (ji13) < (l1.length : Int) := of_decide_eq_true (by first | (with_reducible assumption) | assumption)
           obtain ⟨ad223, e223, hx223_0⟩ := Kd.at_int HR1.out (ji13) p223 q223
           obtain rfl : ad214 = ad223 := (by injection e223)
           replace hx223_0 := (HB.out.cell (World.block_lt_of_cell? w _ hx223_0)).trans hx223_0
           replace p223 := eq_true p223
           replace q223 := eq_true q223
           go_wp2_with (first | ((with_reducible refine gate_builtin (b := .append) (xs := #[.tmp 64, .tmp 70]) rfl ?_); (try (refine gate_guard (by rfl) ?_; dsimp only)); at_builtin; refine Kd.R_append k71 (w0 := w) w.heap.size rfl (.tmp 64) (.tmp 70) 69 71 (.agg #[(.int .i32 0), (.int .u8 0)]) 8 rfl Tryd.underlying69 info71 rfl (by decide) (by omega) u5 x5_1 (⟨rd l1 (ji13), 0⟩ : S71) [.int .i32 (rd l1 (ji13)), .int .u8 0] (fun _ => True) (fun _ => False) rfl rfl ?aP (fun _ hk => hk.elim) ?aF ?aO ?aB ?aS ?aL ?_; (case aP => exact k71_mkM _ _ _ (⟨rd l1 (ji13), 0⟩ : S71)); (case aB => exact (by repeat (first | (with_reducible first | exact HB.out | apply below_alloc | apply pw_below_drewN | apply below_drew1) | exact HB.out))); (case aF => exact (fun _ _ => trivial)); (case aO => exact (by (with_reducible repeat (first | apply Kd.R_alloc | apply Kd.R_drewN | apply Kd.R_drew)); exact HO_5.out)); (case aS => exact (below_size (by repeat (first | (with_reducible first | exact HB.out | apply below_alloc | apply pw_below_drewN | apply below_drew1) | exact HB.out)))); (case aL => have := LMc15.out; omega); intro v225 w16 ho hb hg hat; rw [← Ny224.out] at ho; have n0_ := Aside0.mk (hb); have n1_ := Aside0.mk (ho); clear HB; clear HO_5; have HB := n0_; have HO226 := n1_; clear n0_ n1_; clear ho hb hg hat))
           go_roundg k1
           case measure => have := HK1.out; omega
           case rel => exact ⟨(y224), (wrap64 ((ji13) + 1)), (by first | rfl | (simp; done) | (simp only [← hji13] <;> (first | rfl | simp)) | (simp [*]; done)), H', ⟨by have := HK1.out; omega⟩, ⟨by (with_reducible repeat (first | apply Kd.R_alloc | apply Kd.R_drewN | apply Kd.R_drew)); exact HO226.out⟩, ⟨by repeat (first | (with_reducible first | exact HB.out | apply below_alloc | apply pw_below_drewN | apply below_drew1) | exact HB.out)⟩⟩
          ·rw [if_neg c15] at H
           exact absurd H (by simp)
         ·rw [if_neg c14] at H
          exact absurd H (by simp)
        ·rw [if_neg c12] at H
         have c12b0 : decide ((wrap64 (x6_1 + 1)) < (l1.length : Int)) = false := decide_eq_false c12
         clear c12
         by_cases c17 : x5_1.length < 17592186044416
         ·rw [if_pos c17] at H
          have LMc17 := Aside0.mk c17
          clear c17
          obtain ⟨y228, hy228⟩ : ∃ y_ : List (S71), y_ = (x5_1 ++ [(⟨rd l1 x6_1, 0⟩ : S71)]) := ⟨_, rfl⟩
          replace H : (impl_like.l0 k1 l0 l1 y228 (wrap64 (x6_1 + 1))) = some r := by first | (rw [hy228]; with_reducible exact H) | (have H2_ := (Option.bind_some _ _).symm.trans H; rw [hy228]; with_reducible exact H2_) | (have H2_ := (Option.bind_some _ _).symm.trans H; with_reducible exact H2_) | with_reducible exact H | (rw [hy228]; exact H) | exact H
          have Ny228 := Aside0.mk hy228
          clear hy228
          have H' := Aside0.mk H
          clear H
          have p214 : 0 ≤ (x6_1 : Int) := of_decide_eq_true (by first | (with_reducible assumption) | assumption)
          have q214 : x6_1 < (l1.length : Int) := of_decide_eq_true (by first | (with_reducible assumption) | assumption)
          obtain ⟨ad214, e214, hx214_0⟩ := Kd.at_int HR1.out x6_1 p214 q214
          cases e214
          replace hx214_0 := (HB.out.cell (World.block_lt_of_cell? w _ hx214_0)).trans hx214_0
          replace p214 := eq_true p214
          replace q214 := eq_true q214
          have p218 : 0 ≤ (x6_1 : Int) := of_decide_eq_true (by first | (with_reducible assumption) | assumption)
          have q218 : x6_1 < (l1.length : Int) := of_decide_eq_true (by first | (with_reducible assumption) | assumption)
          obtain ⟨ad218, e218, hx218_0⟩ := Kd.at_int HR1.out x6_1 p218 q218
          obtain rfl : ad214 = ad218 := (by injection e218)
          replace hx218_0 := (HB.out.cell (World.block_lt_of_cell? w _ hx218_0)).trans hx218_0
          replace p218 := eq_true p218
          replace q218 := eq_true q218
          have p222 : 0 ≤ (x6_1 : Int) := of_decide_eq_true (by first | (with_reducible assumption) | assumption)
          have q222 : x6_1 < (l1.length : Int) := of_decide_eq_true (by first | (with_reducible assumption) | assumption)
          obtain ⟨ad222, e222, hx222_0⟩ := Kd.at_int HR1.out x6_1 p222 q222
          obtain rfl : ad214 = ad222 := (by injection e222)
          replace hx222_0 := (HB.out.cell (World.block_lt_of_cell? w _ hx222_0)).trans hx222_0
          replace p222 := eq_true p222
          replace q222 := eq_true q222
          have p227 : 0 ≤ (x6_1 : Int) := of_decide_eq_true (by first | (with_reducible assumption) | assumption)
          have q227 : x6_1 < (l1.length : Int) := of_decide_eq_true (by first | (with_reducible assumption) | assumption)
          obtain ⟨ad227, e227, hx227_0⟩ := Kd.at_int HR1.out x6_1 p227 q227
          obtain rfl : ad214 = ad227 := (by injection e227)
          replace hx227_0 := (HB.out.cell (World.block_lt_of_cell? w _ hx227_0)).trans hx227_0
          replace p227 := eq_true p227
          replace q227 := eq_true q227
          go_wp2_with (first | ((with_reducible refine gate_builtin (b := .append) (xs := #[.tmp 21, .tmp 27]) rfl ?_); (try (refine gate_guard (by rfl) ?_; dsimp only)); at_builtin; refine Kd.R_append k71 (w0 := w) w.heap.size rfl (.tmp 21) (.tmp 27) 69 71 (.agg #[(.int .i32 0), (.int .u8 0)]) 8 rfl Tryd.underlying69 info71 rfl (by decide) (by omega) u5 x5_1 (⟨rd l1 x6_1, 0⟩ : S71) [.int .i32 (rd l1 x6_1), .int .u8 0] (fun _ => True) (fun _ => False) rfl rfl ?aP (fun _ hk => hk.elim) ?aF ?aO ?aB ?aS ?aL ?_; (case aP => exact k71_mkM _ _ _ (⟨rd l1 x6_1, 0⟩ : S71)); (case aB => exact (by repeat (first | (with_reducible first | exact HB.out | apply below_alloc | apply pw_below_drewN | apply below_drew1) | exact HB.out))); (case aF => exact (fun _ _ => trivial)); (case aO => exact (by (with_reducible repeat (first | apply Kd.R_alloc | apply Kd.R_drewN | apply Kd.R_drew)); exact HO_5.out)); (case aS => exact (below_size (by repeat (first | (with_reducible first | exact HB.out | apply below_alloc | apply pw_below_drewN | apply below_drew1) | exact HB.out)))); (case aL => have := LMc17.out; omega); intro v229 w18 ho hb hg hat; rw [← Ny228.out] at ho; have n0_ := Aside0.mk (hb); have n1_ := Aside0.mk (ho); clear HB; clear HO_5; have HB := n0_; have HO230 := n1_; clear n0_ n1_; clear ho hb hg hat))
          go_roundg k1
          case measure => have := HK1.out; omega
          case rel => exact ⟨(y228), (wrap64 (x6_1 + 1)), (by first | rfl | (simp; done) | (simp [*]; done)), H', ⟨by have := HK1.out; omega⟩, ⟨by (with_reducible repeat (first | apply Kd.R_alloc | apply Kd.R_drewN | apply Kd.R_drew)); exact HO230.out⟩, ⟨by repeat (first | (with_reducible first | exact HB.out | apply below_alloc | apply pw_below_drewN | apply below_drew1) | exact HB.out)⟩⟩
         ·rw [if_neg c17] at H
          exact absurd H (by simp)
       ·rw [if_neg c11] at H
        have c11b0 : ((rd l1 x6_1) == 92) = false := beq_eq_false_iff_ne.mpr c11
        have c11b1 : ((rd l1 x6_1) != 92) = true := bne_iff_ne.mpr c11
        by_cases c19 : x5_1.length < 17592186044416
        ·rw [if_pos c19] at H
         have LMc19 := Aside0.mk c19
         clear c19
         obtain ⟨y232, hy232⟩ : ∃ y_ : List (S71), y_ = (x5_1 ++ [(⟨rd l1 x6_1, 0⟩ : S71)]) := ⟨_, rfl⟩
         replace H : (impl_like.l0 k1 l0 l1 y232 (wrap64 (x6_1 + 1))) = some r := by first | (rw [hy232]; with_reducible exact H) | (have H2_ := (Option.bind_some _ _).symm.trans H; rw [hy232]; with_reducible exact H2_) | (have H2_ := (Option.bind_some _ _).symm.trans H; with_reducible exact H2_) | with_reducible exact H | (rw [hy232]; exact H) | exact H
         have Ny232 := Aside0.mk hy232
         clear hy232
         have H' := Aside0.mk H
         clear H
         have p214 : 0 ≤ (x6_1 : Int) := of_decide_eq_true (by first | (with_reducible assumption) | assumption)
         have q214 : x6_1 < (l1.length : Int) := of_decide_eq_true (by first | (with_reducible assumption) | assumption)
         obtain ⟨ad214, e214, hx214_0⟩ := Kd.at_int HR1.out x6_1 p214 q214
         cases e214
         replace hx214_0 := (HB.out.cell (World.block_lt_of_cell? w _ hx214_0)).trans hx214_0
         replace p214 := eq_true p214
         replace q214 := eq_true q214
         have p218 : 0 ≤ (x6_1 : Int) := of_decide_eq_true (by first | (with_reducible assumption) | assumption)
         have q218 : x6_1 < (l1.length : Int) := of_decide_eq_true (by first | (with_reducible assumption) | assumption)
         obtain ⟨ad218, e218, hx218_0⟩ := Kd.at_int HR1.out x6_1 p218 q218
         obtain rfl : ad214 = ad218 := (by injection e218)
         replace hx218_0 := (HB.out.cell (World.block_lt_of_cell? w _ hx218_0)).trans hx218_0
         replace p218 := eq_true p218
         replace q218 := eq_true q218
         have p222 : 0 ≤ (x6_1 : Int) := of_decide_eq_true (by first | (with_reducible assumption) | assumption)
         have q222 : x6_1 < (l1.length : Int) := of_decide_eq_true (by first | (with_reducible assumption) | assumption)
         obtain ⟨ad222, e222, hx222_0⟩ := Kd.at_int HR1.out x6_1 p222 q222
         obtain rfl : ad214 = ad222 := (by injection e222)
         replace hx222_0 := (HB.out.cell (World.block_lt_of_cell? w _ hx222_0)).trans hx222_0
         replace p222 := eq_true p222
         replace q222 := eq_true q222
         have p231 : 0 ≤ (x6_1 : Int) := of_decide_eq_true (by first | (with_reducible assumption) | assumption)
         have q231 : x6_1 < (l1.length : Int) := of_decide_eq_true (by first | (with_reducible assumption) | assumption)
         obtain ⟨ad231, e231, hx231_0⟩ := Kd.at_int HR1.out x6_1 p231 q231
         obtain rfl : ad214 = ad231 := (by injection e231)
         replace hx231_0 := (HB.out.cell (World.block_lt_of_cell? w _ hx231_0)).trans hx231_0
         replace p231 := eq_true p231
         replace q231 := eq_true q231
         go_wp2_with (first | ((with_reducible refine gate_builtin (b := .append) (xs := #[.tmp 21, .tmp 27]) rfl ?_); (try (refine gate_guard (by rfl) ?_; dsimp only)); at_builtin; refine Kd.R_append k71 (w0 := w) w.heap.size rfl (.tmp 21) (.tmp 27) 69 71 (.agg #[(.int .i32 0), (.int .u8 0)]) 8 rfl Tryd.underlying69 info71 rfl (by decide) (by omega) u5 x5_1 (⟨rd l1 x6_1, 0⟩ : S71) [.int .i32 (rd l1 x6_1), .int .u8 0] (fun _ => True) (fun _ => False) rfl rfl ?aP (fun _ hk => hk.elim) ?aF ?aO ?aB ?aS ?aL ?_; (case aP => exact k71_mkM _ _ _ (⟨rd l1 x6_1, 0⟩ : S71)); (case aB => exact (by repeat (first | (with_reducible first | exact HB.out | apply below_alloc | apply pw_below_drewN | apply below_drew1) | exact HB.out))); (case aF => exact (fun _ _ => trivial)); (case aO => exact (by (with_reducible repeat (first | apply Kd.R_alloc | apply Kd.R_drewN | apply Kd.R_drew)); exact HO_5.out)); (case aS => exact (below_size (by repeat (first | (with_reducible first | exact HB.out | apply below_alloc | apply pw_below_drewN | apply below_drew1) | exact HB.out)))); (case aL => have := LMc19.out; omega); intro v233 w20 ho hb hg hat; rw [← Ny232.out] at ho; have n0_ := Aside0.mk (hb); have n1_ := Aside0.mk (ho); clear HB; clear HO_5; have HB := n0_; have HO234 := n1_; clear n0_ n1_; clear ho hb hg hat))
         go_roundg k1
         case measure => have := HK1.out; omega
         case rel => exact ⟨(y232), (wrap64 (x6_1 + 1)), (by first | rfl | (simp; done) | (simp [*]; done)), H', ⟨by have := HK1.out; omega⟩, ⟨by (with_reducible repeat (first | apply Kd.R_alloc | apply Kd.R_drewN | apply Kd.R_drew)); exact HO234.out⟩, ⟨by repeat (first | (with_reducible first | exact HB.out | apply below_alloc | apply pw_below_drewN | apply below_drew1) | exact HB.out)⟩⟩
        ·rw [if_neg c19] at H
         exact absurd H (by simp)
    ·rw [if_neg c4] at H
     exact absurd H (by simp)
   ·rw [if_neg c3] at H
    have c3b0 : decide (x6_1 < (l1.length : Int)) = false := decide_eq_false c3
    clear c3
    obtain ⟨ji21, hji21⟩ : ∃ j_ : Int, (wrap64 ((x5_1.length : Int) + 1)) = j_ := ⟨_, rfl⟩
    replace H : (if 0 ≤ (ji21) then (if (ji21 : Int).toNat ≤ 281474976710656 then ((some (List.replicate (ji21 : Int).toNat false : List Bool)).bind fun y235 => (if 0 < (y235.length : Int) then (impl_like.l1 k1 l0 x5_1 (y235.set (0 : Int).toNat true) x5_1 (x5_1.length : Int) 0) else (none))) else (none)) else (none)) = some r := by first | (rw [hji21] at H; exact H) | (simp only [hji21] at H ⊢; exact H)
    have hji21w : (IntKind.i64.wrap ((x5_1.length : Int) + 1)) = ji21 := (i64_w _).trans hji21
    by_cases c22 : 0 ≤ (ji21)
    ·rw [if_pos c22] at H
     have c22b0 := eq_true c22
     have c22b1 : decide (0 ≤ (ji21)) = true := decide_eq_true c22
     clear c22
     by_cases c23 : (ji21 : Int).toNat ≤ 281474976710656
     ·rw [if_pos c23] at H
      have c23b0 := eq_true c23
      have c23b1 : decide ((ji21 : Int).toNat ≤ 281474976710656) = true := decide_eq_true c23
      clear c23
      obtain ⟨y235, hy235⟩ : ∃ y_ : List Bool, y_ = (List.replicate (ji21 : Int).toNat false) := ⟨_, rfl⟩
      replace H : (if 0 < (y235.length : Int) then (impl_like.l1 k1 l0 x5_1 (y235.set (0 : Int).toNat true) x5_1 (x5_1.length : Int) 0) else (none)) = some r := by first | (rw [hy235]; with_reducible exact H) | (have H2_ := (Option.bind_some _ _).symm.trans H; rw [hy235]; with_reducible exact H2_) | (have H2_ := (Option.bind_some _ _).symm.trans H; with_reducible exact H2_) | with_reducible exact H | (rw [hy235]; exact H) | exact H
      have Ny235 := Aside0.mk hy235
      clear hy235
      by_cases c24 : 0 < (y235.length : Int)
      ·rw [if_pos c24] at H
       have c24b0 : decide (0 < (y235.length : Int)) = true := decide_eq_true c24
       have c24b1 : decide (0 < y235.length) = true := decide_eq_true (by omega)
       clear c24
       obtain ⟨y238, hy238⟩ : ∃ y_ : List Bool, y_ = (y235.set (0 : Int).toNat true) := ⟨_, rfl⟩
       replace H : (impl_like.l1 k1 l0 x5_1 y238 x5_1 (x5_1.length : Int) 0) = some r := by first | (rw [hy238]; with_reducible exact H) | (have H2_ := (Option.bind_some _ _).symm.trans H; rw [hy238]; with_reducible exact H2_) | (have H2_ := (Option.bind_some _ _).symm.trans H; with_reducible exact H2_) | with_reducible exact H | (rw [hy238]; exact H) | exact H
       have Ny238 := Aside0.mk hy238
       clear hy238
       have H' := Aside0.mk H
       clear H
       obtain ⟨Ao26, co26, eo26⟩ := Kd.R_slice HO_5.out
       subst eo26
       go_wp2_with (first | ((with_reducible refine gate_dst (N := 75) rfl ?_); (try (refine gate_guard (by rfl) ?_; dsimp only)); refine Kd.R_make Kd.bool _ 4 rfl (N := 75) rfl 51 _ _ rfl ji21 rfl rfl Tryd.underlying51 (.bool false) 1 info4 rfl (by decide) (by omega) false (ok := fun _ => True) (okp := fun _ => True) rfl (fun _ hk => hk) trivial (of_decide_eq_true (by first | (with_reducible assumption) | assumption)) (Nat.le_trans (Nat.mul_le_mul_right _ (of_decide_eq_true (by first | (with_reducible assumption) | assumption) : ji21.toNat ≤ 281474976710656)) (by omega)) (Below.refl _ _) (Nat.le_refl _) ?_; intro v236 w27 ho28 hb hg_ hnew_; clear hg_ hnew_; (first | rw [← Ny235.out] at ho28 | (simp only [Int.reduceToNat] at ho28; rw [← Ny235.out] at ho28)); have n0_ := Aside0.mk (Kd.R_below (by (with_reducible repeat (first | apply Kd.R_alloc | apply Kd.R_drewN | apply Kd.R_drew)); exact HO_5.out) hb); have n1_ := Aside0.mk (Kd.R_lower ho28 (below_size (by repeat (first | (with_reducible first | exact HB.out | apply below_alloc | apply pw_below_drewN | apply below_drew1) | exact HB.out)))); have n2_ := Aside0.mk (below_step (by repeat (first | (with_reducible first | exact HB.out | apply below_alloc | apply pw_below_drewN | apply below_drew1) | exact HB.out)) hb); clear HO_5; clear HB; have HO_5 := n0_; have HO237 := n1_; have HB := n2_; clear n0_ n1_ n2_; clear hb ho28; have p25 : 0 ≤ (0 : Int) := (by omega); have q25 : (0 : Int) < ((y235.length : Int) : Int) := of_decide_eq_true (by first | (with_reducible assumption) | assumption); have qi25 : (0 < y235.length) = True := eq_true (by omega); obtain ⟨go25, co25, eo25, gb25, gl25, cl25, HG25⟩ := Kd.R_form HO237.out (by omega); (first | cases eo25 | (injection eo25 with ea_ en_ ec_; (first | subst ea_ | (injection ea_ with ea_; subst ea_)); subst ec_; clear en_)); have GB25 := Aside0.mk gb25; have GG25 := Aside0.mk HG25; clear gb25 gl25 HG25; obtain ⟨hx25_0, hf25_0⟩ := Kd.R_celln false HO237.out (0 : Int) p25 q25; (try rw [show ((0 : Int)).toNat = 0 from rfl] at hx25_0); (try simp only [Nat.reduceMul, Nat.zero_mul, Nat.zero_add, Nat.reduceAdd] at hx25_0); (try rw [show ((0 : Int)).toNat = 0 from rfl] at hf25_0); (try simp only [Nat.reduceMul, Nat.zero_mul, Nat.zero_add, Nat.reduceAdd] at hf25_0); replace p25 := eq_true p25; replace q25 := eq_true q25; obtain ⟨hy29_, hz29_⟩ := Kd.R_celln false HO237.out (0 : Int) (by omega) (of_decide_eq_true (by first | (with_reducible assumption) | assumption)); (try simp only [Int.reduceToNat, Int.toNat_zero, Int.toNat_ofNat, Nat.reduceMul, Nat.zero_mul, Nat.zero_add] at hy29_ hz29_); (try rw [show ((0 : Int)).toNat = 0 from rfl] at hy29_); (try rw [show ((0 : Int)).toNat = 0 from rfl] at hz29_); have HP29 := Kd.R_putg HO237.out (0 : Int) true) | ((with_reducible refine gate_store (t := 4) (p := 77) rfl ?_); refine store_event (t := 4) (p := 77) (v := ?vo_w30) (w1 := (w27.setCell ⟨go25, (0 : Int).toNat, none⟩ (.bool true))) ?hg ?ho ?hn ?hr ?_; (case ho => rfl); (case hg => rfl); (case hn => rfl); (case hr => first | (go_simp; done) | (go_simp; rfl)); intro w30 hw; have hg : w27.grownBy w30 (some go25) := (by rw [hw]; exact HP29.2); have hp_ : Kd.R Kd.bool 4 w30 w.heap.size (fun _ => True) (.slice (some ⟨go25, 0, none⟩) y235.length co25) y238 := (by rw [hw, Ny238.out]; exact HP29.1); clear HP29; have n0_ := Aside0.mk (Kd.R_over' (v := (.slice (some ⟨go25, 0, none⟩) y235.length co25)) (by (with_reducible repeat (first | apply Kd.R_alloc | apply Kd.R_drewN | apply Kd.R_drew)); exact HO_5.out) (Kd.R_typed HO237.out) (by decide) hg); have n1_ := Aside0.mk (hp_); have n2_ := Aside0.mk ((by rw [hw]; exact below_set (HB.out) GB25.out : Below w.heap.size w w30)); clear HO_5; clear HO237; clear HB; have HO_5 := n0_; have HO237 := n1_; have HB := n2_; clear n0_ n1_ n2_; clear hg hw hp_))
       go_loopg [80] k1 (fun kq v80 w' => ∃ (x7_2 : List Bool) (x80_2 : Int), v80 = .int .i64 x80_2 ∧ Aside0 (impl_like.l1 kq l0 x5_1 x7_2 x5_1 (x5_1.length : Int) x80_2 = some r) ∧ Aside0 (kq ≤ k1) ∧ Aside0 (Kd.R k71 71 w' w.heap.size (fun _ => True) (.slice Ao26 x5_1.length co26) x5_1) ∧ Aside0 (Kd.R Kd.bool 4 w' w.heap.size (fun _ => True) (.slice (some ⟨go25, 0, none⟩) y235.length co25) x7_2) ∧ Aside0 (Kd.R k71 71 w' w.heap.size (fun _ => True) (.slice Ao26 x5_1.length co26) x5_1) ∧ Aside0 (Below w.heap.size w w'))
       case atStart => exact ⟨(y238), (0), (by first | rfl | (simp; done) | (simp [*]; done)), H', ⟨Nat.le_refl _⟩, ⟨by (with_reducible repeat (first | apply Kd.R_alloc | apply Kd.R_drewN | apply Kd.R_drew)); exact HO_5.out⟩, ⟨by (with_reducible repeat (first | apply Kd.R_alloc | apply Kd.R_drewN | apply Kd.R_drew)); exact HO237.out⟩, ⟨by (with_reducible repeat (first | apply Kd.R_alloc | apply Kd.R_drewN | apply Kd.R_drew)); exact HO_5.out⟩, ⟨by repeat (first | (with_reducible first | exact HB.out | apply below_alloc | apply pw_below_drewN | apply below_drew1) | exact HB.out)⟩⟩
       case round =>
        clear H'
        try clear c1
        try clear c2
        try clear p2
        try clear q2
        try clear hx2
        try clear qi2
        try clear hf2
        try clear c3
        try clear c3b0
        try clear c4
        try clear c4b0
        try clear c5
        try clear c5b0
        try clear c5b1
        try clear c6
        try clear p6
        try clear c8
        try clear c8b0
        try clear c8b1
        try clear c9
        try clear c11
        try clear c11b0
        try clear c11b1
        try clear c12
        try clear c12b0
        try clear c14
        try clear c14b0
        try clear c15
        try clear c17
        try clear c19
        try clear p21
        try clear q21
        try clear hx21
        try clear c22
        try clear c22b0
        try clear c22b1
        try clear p22
        try clear q22
        try clear hx22
        try clear c23
        try clear c23b0
        try clear c23b1
        try clear p23
        try clear q23
        try clear hx23
        try clear c24
        try clear c24b0
        try clear c24b1
        try clear p25
        try clear q25
        try clear hx25
        try clear qi25
        try clear hf25
        try clear c30
        try clear hx214_0
        try clear hx218_0
        try clear hx222_0
        try clear hx223_0
        try clear hx227_0
        try clear hx231_0
        try clear hx25_0
        try clear p2
        try clear p214
        try clear p218
        try clear p222
        try clear p223
        try clear p227
        try clear p231
        try clear p25
        try clear q214
        try clear q218
        try clear q222
        try clear q223
        try clear q227
        try clear q231
        try clear q25
        obtain ⟨x7_2, x80_2, rfl, HA, HK2, HO_5, HO_7, HO_78, HB⟩ := hrel
        have hl7_2 := (Kd.R_reads' HO_7.out).1
        rw [hl7_2] at HO_7
        (try simp only [hl7_2])
        (try simp only [hl7_2] at HO_5)
        (try simp only [hl7_2] at HO_78)
        cases gk with
        | zero => exact absurd HA.out (by simp [impl_like.l1])
        | succ k2 =>
         have H := HA.out
         clear HA
         simp only [impl_like.l1] at H
         by_cases c31 : x80_2 < (x5_1.length : Int)
         ·rw [if_pos c31] at H
          have c31b0 : decide (x80_2 < (x5_1.length : Int)) = true := decide_eq_true c31
          clear c31
          by_cases c32 : 0 ≤ x80_2
          ·rw [if_pos c32] at H
           have c32b0 : decide (0 ≤ x80_2) = true := decide_eq_true c32
           clear c32
           by_cases c33 : x80_2 < (x5_1.length : Int)
           ·rw [if_pos c33] at H
            have c33b0 : decide (x80_2 < (x5_1.length : Int)) = true := decide_eq_true c33
            clear c33
            by_cases c34 : x80_2 < (x7_2.length : Int)
            ·rw [if_pos c34] at H
             have c34b0 : decide (x80_2 < (x7_2.length : Int)) = true := decide_eq_true c34
             clear c34
             obtain ⟨bq35, hbq35⟩ : ∃ b_ : Bool, b_ = (rdOf false x7_2 x80_2) := ⟨_, rfl⟩
             replace H : (if bq35 = true then (if 0 ≤ (wrap64 (x80_2 + 1)) then (if (wrap64 (x80_2 + 1)) < (x7_2.length : Int) then (impl_like.l1 k2 l0 x5_1 (x7_2.set ((wrap64 (x80_2 + 1)) : Int).toNat (((rd_T71 x5_1 x80_2).f1) == 37)) x5_1 (x5_1.length : Int) (wrap64 (x80_2 + 1))) else (none)) else (none)) else (if 0 ≤ (wrap64 (x80_2 + 1)) then (if (wrap64 (x80_2 + 1)) < (x7_2.length : Int) then (impl_like.l1 k2 l0 x5_1 (x7_2.set ((wrap64 (x80_2 + 1)) : Int).toNat false) x5_1 (x5_1.length : Int) (wrap64 (x80_2 + 1))) else (none)) else (none))) = some r := by rw [← hbq35] at H; exact H
             have Nbq35 := Aside0.mk hbq35
             clear hbq35
             by_cases c36 : bq35 = true
             ·subst c36
              have H1 : (if 0 ≤ (wrap64 (x80_2 + 1)) then (if (wrap64 (x80_2 + 1)) < (x7_2.length : Int) then (impl_like.l1 k2 l0 x5_1 (x7_2.set ((wrap64 (x80_2 + 1)) : Int).toNat (((rd_T71 x5_1 x80_2).f1) == 37)) x5_1 (x5_1.length : Int) (wrap64 (x80_2 + 1))) else (none)) else (none)) = some r := by rw [if_pos rfl] at H; exact H
              clear H
              have H := H1
              clear H1
              obtain ⟨ji37, hji37⟩ : ∃ j_ : Int, (wrap64 (x80_2 + 1)) = j_ := ⟨_, rfl⟩
              replace H : (if 0 ≤ (ji37) then (if (ji37) < (x7_2.length : Int) then (impl_like.l1 k2 l0 x5_1 (x7_2.set ((ji37) : Int).toNat (((rd_T71 x5_1 x80_2).f1) == 37)) x5_1 (x5_1.length : Int) ji37) else (none)) else (none)) = some r := by first | (rw [hji37] at H; exact H) | (simp only [hji37] at H ⊢; exact H)
              have hji37w : (IntKind.i64.wrap (x80_2 + 1)) = ji37 := (i64_w _).trans hji37
              by_cases c38 : 0 ≤ (ji37)
              ·rw [if_pos c38] at H
               have c38b0 : decide (0 ≤ (ji37)) = true := decide_eq_true c38
               clear c38
               by_cases c39 : (ji37) < (x7_2.length : Int)
               ·rw [if_pos c39] at H
                have c39b0 : decide ((ji37) < (x7_2.length : Int)) = true := decide_eq_true c39
                clear c39
                obtain ⟨y242, hy242⟩ : ∃ y_ : List Bool, y_ = (x7_2.set ((ji37) : Int).toNat (((rd_T71 x5_1 x80_2).f1) == 37)) := ⟨_, rfl⟩
                replace H : (impl_like.l1 k2 l0 x5_1 y242 x5_1 (x5_1.length : Int) ji37) = some r := by first | (rw [hy242]; with_reducible exact H) | (have H2_ := (Option.bind_some _ _).symm.trans H; rw [hy242]; with_reducible exact H2_) | (have H2_ := (Option.bind_some _ _).symm.trans H; with_reducible exact H2_) | with_reducible exact H | (rw [hy242]; exact H) | exact H
                have Ny242 := Aside0.mk hy242
                clear hy242
                have H' := Aside0.mk H
                clear H
                have p239 : 0 ≤ (x80_2 : Int) := of_decide_eq_true (by first | (with_reducible assumption) | assumption)
                have q239 : x80_2 < (x5_1.length : Int) := of_decide_eq_true (by first | (with_reducible assumption) | assumption)
                obtain ⟨ad239, e239, hx239_0, hx239_1⟩ := at_T71 (Kd.R_reads' HO_78.out).2.2 x80_2 p239 q239
                cases e239
                replace p239 := eq_true p239
                replace q239 := eq_true q239
                go_wp2_with (first | ((with_reducible refine gate_dst (N := 9) rfl ?_); (try (refine gate_guard (by rfl) ?_; dsimp only)); refine box_event ?hg (N := 9) ?hd (cs := #[.int .i32 0, .int .u8 0]) (t := 71) ?hr ?_; (case hd => rfl); (case hg => rfl); (case hr => first | (go_simp; done) | (go_simp; rfl)); intro gb240 hg w41 hbox hb; have n0_ := Aside0.mk (Kd.R_below (Kd.R_elderB (by (with_reducible repeat (first | apply Kd.R_alloc | apply Kd.R_drewN | apply Kd.R_drew)); exact HO_5.out) gb240 (Nat.le_of_eq hg.symm)) hb); have n1_ := Aside0.mk (Kd.R_below (by (with_reducible repeat (first | apply Kd.R_alloc | apply Kd.R_drewN | apply Kd.R_drew)); exact HO_7.out) hb); have n2_ := Aside0.mk (Kd.R_below (Kd.R_elderB (by (with_reducible repeat (first | apply Kd.R_alloc | apply Kd.R_drewN | apply Kd.R_drew)); exact HO_78.out) gb240 (Nat.le_of_eq hg.symm)) hb); have n3_ := Aside0.mk (below_step (by repeat (first | (with_reducible first | exact HB.out | apply below_alloc | apply pw_below_drewN | apply below_drew1) | exact HB.out)) hb); have n4_ := Aside0.mk (hbox); have n5_ := Aside0.mk ((by rw [hg]; exact (below_size (by repeat (first | (with_reducible first | exact HB.out | apply below_alloc | apply pw_below_drewN | apply below_drew1) | exact HB.out))) : w.heap.size ≤ gb240)); have n6_ := Aside0.mk ((by rw [hg]; exact (below_size (by repeat (first | (with_reducible first | exact HB.out | apply below_alloc | apply pw_below_drewN | apply below_drew1) | exact HB.out))) : w.heap.size ≤ gb240)); clear HO_5; clear HO_7; clear HO_78; clear HB; have HO_5 := n0_; have HO_7 := n1_; have HO_78 := n2_; have HB := n3_; have BK240 := n4_; have GW240 := n5_; have GE240 := n6_; clear n0_ n1_ n2_ n3_ n4_ n5_ n6_; clear hb hbox hg; have hcz42_0 : w41.cell? ⟨gb240, 0, none⟩ = some (.int .i32 0) := (blk_cell BK240.out 0).trans rfl; have hcz42_1 : w41.cell? ⟨gb240, 1, none⟩ = some (.int .u8 0) := (blk_cell BK240.out 1).trans rfl; have hfz42_0 := blk_frozen BK240.out 0; have hfz42_1 := blk_frozen BK240.out 1) | ((with_reducible refine gate_store (t := 71) (p := 9) rfl ?_); refine store_event (t := 71) (p := 9) (v := ?vo_w43) (w1 := ((w41.setCell ⟨gb240, 0, none⟩ (.int .i32 ((rd_T71 x5_1 x80_2).f0))).setCell ⟨gb240, 1, none⟩ (.int .u8 ((rd_T71 x5_1 x80_2).f1)))) ?hg ?ho ?hn ?hr ?_; (case ho => rfl); (case hg => rfl); (case hn => rfl); (case hr => first | (go_simp; done) | (go_simp; rfl)); intro w43 hw; have n0_ : Aside0 (Kd.R k71 71 w43 w.heap.size (fun k_ => k_ ≠ gb240) (.slice (some ad239) x5_1.length co26) x5_1) := ⟨(by rw [hw]; exact (by (with_reducible repeat (first | apply Kd.R_alloc | apply Kd.R_drewN | apply Kd.R_drew)); exact Kd.R_mono (Kd.R_far (p := ⟨gb240, 1, none⟩) (Kd.R_far (p := ⟨gb240, 0, none⟩) (Kd.R_mono HO_5.out (fun k_ hk => (⟨hk, hk.2⟩ : _ ∧ k_ ≠ gb240))) (fun _ hk => hk.2) (.int .i32 ((rd_T71 x5_1 x80_2).f0))) (fun _ hk => hk.2) (.int .u8 ((rd_T71 x5_1 x80_2).f1))) (fun _ hk => hk.1.2)))⟩; have n1_ : Aside0 (Kd.R Kd.bool 4 w43 w.heap.size (fun _ => True) (.slice (some ⟨go25, 0, none⟩) x7_2.length co25) x7_2) := ⟨(by rw [hw]; exact (by (with_reducible repeat (first | apply Kd.R_alloc | apply Kd.R_drewN | apply Kd.R_drew)); exact Kd.R_mono (Kd.R_far (p := ⟨gb240, 1, none⟩) (Kd.R_far (p := ⟨gb240, 0, none⟩) (Kd.R_types HO_7.out BK240.out (by decide)) (fun _ hk => hk.2) (.int .i32 ((rd_T71 x5_1 x80_2).f0))) (fun _ hk => hk.2) (.int .u8 ((rd_T71 x5_1 x80_2).f1))) (fun _ hk => trivial)))⟩; have n2_ : Aside0 (Kd.R k71 71 w43 w.heap.size (fun k_ => k_ ≠ gb240) (.slice (some ad239) x5_1.length co26) x5_1) := ⟨(by rw [hw]; exact (by (with_reducible repeat (first | apply Kd.R_alloc | apply Kd.R_drewN | apply Kd.R_drew)); exact Kd.R_mono (Kd.R_far (p := ⟨gb240, 1, none⟩) (Kd.R_far (p := ⟨gb240, 0, none⟩) (Kd.R_mono HO_78.out (fun k_ hk => (⟨hk, hk.2⟩ : _ ∧ k_ ≠ gb240))) (fun _ hk => hk.2) (.int .i32 ((rd_T71 x5_1 x80_2).f0))) (fun _ hk => hk.2) (.int .u8 ((rd_T71 x5_1 x80_2).f1))) (fun _ hk => hk.1.2)))⟩; have n3_ : Aside0 (w43.heap[gb240]? = some (.cells #[.int .i32 ((rd_T71 x5_1 x80_2).f0), .int .u8 ((rd_T71 x5_1 x80_2).f1)] 71 (0, 0))) := ⟨(by rw [hw]; exact (by (with_reducible repeat (first | refine blk_drewN ?_ _ | refine blk_drew ?_ | refine blk_alloc ?_ _)); refine blk_put (cs := #[.int .i32 ((rd_T71 x5_1 x80_2).f0), .int .u8 0]) ?_ 1 _ rfl; (with_reducible repeat (first | refine blk_drewN ?_ _ | refine blk_drew ?_ | refine blk_alloc ?_ _)); refine blk_put (cs := #[.int .i32 0, .int .u8 0]) ?_ 0 _ rfl; (with_reducible repeat (first | refine blk_drewN ?_ _ | refine blk_drew ?_ | refine blk_alloc ?_ _)); exact BK240.out))⟩; have n4_ : Aside0 (Below w.heap.size w w43) := ⟨(by rw [hw]; exact (by repeat (first | (with_reducible first | exact HB.out | apply below_alloc | apply pw_below_drewN | apply below_drew1 | refine below_set ?_ GE240.out) | exact HB.out)))⟩; clear hw; clear HO_5; clear HO_7; clear HO_78; clear BK240; clear HB; have HO_5 := n0_; have HO_7 := n1_; have HO_78 := n2_; have BK240 := n3_; have HB := n4_; clear n0_ n1_ n2_ n3_ n4_; have p241 : 0 ≤ (x80_2 : Int) := of_decide_eq_true (by first | (with_reducible assumption) | assumption); have q241 : x80_2 < (x7_2.length : Int) := of_decide_eq_true (by first | (with_reducible assumption) | assumption); obtain ⟨ad241, e241, hx241_0⟩ := Kd.at_bool (Kd.R_reads' HO_7.out).2.2 x80_2 p241 q241; (try rw [← Nbq35.out] at hx241_0); obtain rfl : (⟨go25, 0, none⟩ : Addr) = ad241 := (by injection e241); (first | simp only [add_plain] at hx241_0 | simp only [add_at] at hx241_0 | simp only [Addr.add, Nat.zero_add] at hx241_0 | skip); replace p241 := eq_true p241; replace q241 := eq_true q241; have hcz44_0 : w43.cell? ⟨gb240, 0, none⟩ = some (.int .i32 ((rd_T71 x5_1 x80_2).f0)) := (blk_cell BK240.out 0).trans rfl; have hcz44_1 : w43.cell? ⟨gb240, 1, none⟩ = some (.int .u8 ((rd_T71 x5_1 x80_2).f1)) := (blk_cell BK240.out 1).trans rfl; have hfz44_0 := blk_frozen BK240.out 0; have hfz44_1 := blk_frozen BK240.out 1; have p40 : 0 ≤ ((ji37) : Int) := of_decide_eq_true (by first | (with_reducible assumption) | assumption); have q40 : ((ji37) : Int) < ((x7_2.length : Int) : Int) := of_decide_eq_true (by first | (with_reducible assumption) | assumption); obtain ⟨hx40_0, hf40_0⟩ := Kd.R_celln false HO_7.out ((ji37) : Int) p40 q40; replace p40 := eq_true p40; replace q40 := eq_true q40; obtain ⟨hy45_, hz45_⟩ := Kd.R_celln false HO_7.out ((ji37) : Int) (of_decide_eq_true (by first | (with_reducible assumption) | assumption)) (of_decide_eq_true (by first | (with_reducible assumption) | assumption)); have HP45 := Kd.R_putg HO_7.out ((ji37) : Int) (((rd_T71 x5_1 x80_2).f1) == 37)) | ((with_reducible refine gate_store (t := 4) (p := 97) rfl ?_); refine store_event (t := 4) (p := 97) (v := ?vo_w46) (w1 := (w43.setCell ⟨go25, ((ji37) : Int).toNat, none⟩ (.bool (((rd_T71 x5_1 x80_2).f1) == 37)))) ?hg ?ho ?hn ?hr ?_; (case ho => rfl); (case hg => rfl); (case hn => rfl); (case hr => first | (go_simp; done) | (go_simp; rfl)); intro w46 hw; have hg : w43.grownBy w46 (some go25) := (by rw [hw]; exact HP45.2); have hp_ : Kd.R Kd.bool 4 w46 w.heap.size (fun _ => True) (.slice (some ⟨go25, 0, none⟩) x7_2.length co25) y242 := (by rw [hw, Ny242.out]; exact HP45.1); clear HP45; have n0_ := Aside0.mk (Kd.R_over' (v := (.slice (some ⟨go25, 0, none⟩) x7_2.length co25)) (by (with_reducible repeat (first | apply Kd.R_alloc | apply Kd.R_drewN | apply Kd.R_drew)); exact HO_5.out) (Kd.R_typed HO_7.out) (by decide) hg); have n1_ := Aside0.mk (hp_); have n2_ := Aside0.mk (Kd.R_over' (v := (.slice (some ⟨go25, 0, none⟩) x7_2.length co25)) (by (with_reducible repeat (first | apply Kd.R_alloc | apply Kd.R_drewN | apply Kd.R_drew)); exact HO_78.out) (Kd.R_typed HO_7.out) (by decide) hg); have n3_ := Aside0.mk (blk_grown (g := gb240) (o := .cells #[.int .i32 ((rd_T71 x5_1 x80_2).f0), .int .u8 ((rd_T71 x5_1 x80_2).f1)] 71 (0, 0)) (by (with_reducible repeat (first | refine blk_drewN ?_ _ | refine blk_drew ?_ | refine blk_alloc ?_ _)); exact BK240.out) hg (Kd.R_ne HO_7.out BK240.out (by decide))); have n4_ := Aside0.mk ((by rw [hw]; exact below_set (HB.out) GB25.out : Below w.heap.size w w46)); clear HO_5; clear HO_7; clear HO_78; clear BK240; clear HB; have HO_5 := n0_; have HO_7 := n1_; have HO_78 := n2_; have BK240 := n3_; have HB := n4_; clear n0_ n1_ n2_ n3_ n4_; clear hg hw hp_))
                (try simp only [← hl7_2])
                go_roundg k2
                case measure => have := HK1.out; have := HK2.out; omega
                case rel => exact ⟨(y242), (ji37), (by first | rfl | (simp; done) | (simp only [← hji37] <;> (first | rfl | simp)) | (simp [*]; done)), H', ⟨by have := HK1.out; have := HK2.out; omega⟩, ⟨by (try simp only [hl7_2]); (with_reducible repeat (first | apply Kd.R_alloc | apply Kd.R_drewN | apply Kd.R_drew)); exact Kd.R_mono HO_5.out (fun _ hk => trivial)⟩, ⟨by (try simp only [hl7_2]); (with_reducible repeat (first | apply Kd.R_alloc | apply Kd.R_drewN | apply Kd.R_drew)); exact HO_7.out⟩, ⟨by (try simp only [hl7_2]); (with_reducible repeat (first | apply Kd.R_alloc | apply Kd.R_drewN | apply Kd.R_drew)); exact Kd.R_mono HO_78.out (fun _ hk => trivial)⟩, ⟨by repeat (first | (with_reducible first | exact HB.out | apply below_alloc | apply pw_below_drewN | apply below_drew1 | refine below_set ?_ GE240.out) | exact HB.out)⟩⟩
               ·rw [if_neg c39] at H
                exact absurd H (by simp)
              ·rw [if_neg c38] at H
               exact absurd H (by simp)
             ·replace c36 := Bool.eq_false_iff.mpr c36
              subst c36
              have H1 : (if 0 ≤ (wrap64 (x80_2 + 1)) then (if (wrap64 (x80_2 + 1)) < (x7_2.length : Int) then (impl_like.l1 k2 l0 x5_1 (x7_2.set ((wrap64 (x80_2 + 1)) : Int).toNat false) x5_1 (x5_1.length : Int) (wrap64 (x80_2 + 1))) else (none)) else (none)) = some r := by rw [if_neg (show ¬ (false = true) by decide)] at H; exact H
              clear H
              have H := H1
              clear H1
              obtain ⟨ji47, hji47⟩ : ∃ j_ : Int, (wrap64 (x80_2 + 1)) = j_ := ⟨_, rfl⟩
              replace H : (if 0 ≤ (ji47) then (if (ji47) < (x7_2.length : Int) then (impl_like.l1 k2 l0 x5_1 (x7_2.set ((ji47) : Int).toNat false) x5_1 (x5_1.length : Int) ji47) else (none)) else (none)) = some r := by first | (rw [hji47] at H; exact H) | (simp only [hji47] at H ⊢; exact H)
              try clear hji37w
              have hji47w : (IntKind.i64.wrap (x80_2 + 1)) = ji47 := (i64_w _).trans hji47
              by_cases c48 : 0 ≤ (ji47)
              ·rw [if_pos c48] at H
               have c48b0 : decide (0 ≤ (ji47)) = true := decide_eq_true c48
               clear c48
               by_cases c49 : (ji47) < (x7_2.length : Int)
               ·rw [if_pos c49] at H
                have c49b0 : decide ((ji47) < (x7_2.length : Int)) = true := decide_eq_true c49
                clear c49
                obtain ⟨y243, hy243⟩ : ∃ y_ : List Bool, y_ = (x7_2.set ((ji47) : Int).toNat false) := ⟨_, rfl⟩
                replace H : (impl_like.l1 k2 l0 x5_1 y243 x5_1 (x5_1.length : Int) ji47) = some r := by first | (rw [hy243]; with_reducible exact H) | (have H2_ := (Option.bind_some _ _).symm.trans H; rw [hy243]; with_reducible exact H2_) | (have H2_ := (Option.bind_some _ _).symm.trans H; with_reducible exact H2_) | with_reducible exact H | (rw [hy243]; exact H) | exact H
                have Ny243 := Aside0.mk hy243
                clear hy243
                have H' := Aside0.mk H
                clear H
                have p239 : 0 ≤ (x80_2 : Int) := of_decide_eq_true (by first | (with_reducible assumption) | assumption)
                have q239 : x80_2 < (x5_1.length : Int) := of_decide_eq_true (by first | (with_reducible assumption) | assumption)
                obtain ⟨ad239, e239, hx239_0, hx239_1⟩ := at_T71 (Kd.R_reads' HO_78.out).2.2 x80_2 p239 q239
                cases e239
                replace p239 := eq_true p239
                replace q239 := eq_true q239
                go_wp2_with (first | ((with_reducible refine gate_dst (N := 9) rfl ?_); (try (refine gate_guard (by rfl) ?_; dsimp only)); refine box_event ?hg (N := 9) ?hd (cs := #[.int .i32 0, .int .u8 0]) (t := 71) ?hr ?_; (case hd => rfl); (case hg => rfl); (case hr => first | (go_simp; done) | (go_simp; rfl)); intro gb240 hg w51 hbox hb; have n0_ := Aside0.mk (Kd.R_below (Kd.R_elderB (by (with_reducible repeat (first | apply Kd.R_alloc | apply Kd.R_drewN | apply Kd.R_drew)); exact HO_5.out) gb240 (Nat.le_of_eq hg.symm)) hb); have n1_ := Aside0.mk (Kd.R_below (by (with_reducible repeat (first | apply Kd.R_alloc | apply Kd.R_drewN | apply Kd.R_drew)); exact HO_7.out) hb); have n2_ := Aside0.mk (Kd.R_below (Kd.R_elderB (by (with_reducible repeat (first | apply Kd.R_alloc | apply Kd.R_drewN | apply Kd.R_drew)); exact HO_78.out) gb240 (Nat.le_of_eq hg.symm)) hb); have n3_ := Aside0.mk (below_step (by repeat (first | (with_reducible first | exact HB.out | apply below_alloc | apply pw_below_drewN | apply below_drew1) | exact HB.out)) hb); have n4_ := Aside0.mk (hbox); have n5_ := Aside0.mk ((by rw [hg]; exact (below_size (by repeat (first | (with_reducible first | exact HB.out | apply below_alloc | apply pw_below_drewN | apply below_drew1) | exact HB.out))) : w.heap.size ≤ gb240)); have n6_ := Aside0.mk ((by rw [hg]; exact (below_size (by repeat (first | (with_reducible first | exact HB.out | apply below_alloc | apply pw_below_drewN | apply below_drew1) | exact HB.out))) : w.heap.size ≤ gb240)); clear HO_5; clear HO_7; clear HO_78; clear HB; have HO_5 := n0_; have HO_7 := n1_; have HO_78 := n2_; have HB := n3_; have BK240 := n4_; have GW240 := n5_; have GE240 := n6_; clear n0_ n1_ n2_ n3_ n4_ n5_ n6_; clear hb hbox hg; have hcz52_0 : w51.cell? ⟨gb240, 0, none⟩ = some (.int .i32 0) := (blk_cell BK240.out 0).trans rfl; have hcz52_1 : w51.cell? ⟨gb240, 1, none⟩ = some (.int .u8 0) := (blk_cell BK240.out 1).trans rfl; have hfz52_0 := blk_frozen BK240.out 0; have hfz52_1 := blk_frozen BK240.out 1) | ((with_reducible refine gate_store (t := 71) (p := 9) rfl ?_); refine store_event (t := 71) (p := 9) (v := ?vo_w53) (w1 := ((w51.setCell ⟨gb240, 0, none⟩ (.int .i32 ((rd_T71 x5_1 x80_2).f0))).setCell ⟨gb240, 1, none⟩ (.int .u8 ((rd_T71 x5_1 x80_2).f1)))) ?hg ?ho ?hn ?hr ?_; (case ho => rfl); (case hg => rfl); (case hn => rfl); (case hr => first | (go_simp; done) | (go_simp; rfl)); intro w53 hw; have n0_ : Aside0 (Kd.R k71 71 w53 w.heap.size (fun k_ => k_ ≠ gb240) (.slice (some ad239) x5_1.length co26) x5_1) := ⟨(by rw [hw]; exact (by (with_reducible repeat (first | apply Kd.R_alloc | apply Kd.R_drewN | apply Kd.R_drew)); exact Kd.R_mono (Kd.R_far (p := ⟨gb240, 1, none⟩) (Kd.R_far (p := ⟨gb240, 0, none⟩) (Kd.R_mono HO_5.out (fun k_ hk => (⟨hk, hk.2⟩ : _ ∧ k_ ≠ gb240))) (fun _ hk => hk.2) (.int .i32 ((rd_T71 x5_1 x80_2).f0))) (fun _ hk => hk.2) (.int .u8 ((rd_T71 x5_1 x80_2).f1))) (fun _ hk => hk.1.2)))⟩; have n1_ : Aside0 (Kd.R Kd.bool 4 w53 w.heap.size (fun _ => True) (.slice (some ⟨go25, 0, none⟩) x7_2.length co25) x7_2) := ⟨(by rw [hw]; exact (by (with_reducible repeat (first | apply Kd.R_alloc | apply Kd.R_drewN | apply Kd.R_drew)); exact Kd.R_mono (Kd.R_far (p := ⟨gb240, 1, none⟩) (Kd.R_far (p := ⟨gb240, 0, none⟩) (Kd.R_types HO_7.out BK240.out (by decide)) (fun _ hk => hk.2) (.int .i32 ((rd_T71 x5_1 x80_2).f0))) (fun _ hk => hk.2) (.int .u8 ((rd_T71 x5_1 x80_2).f1))) (fun _ hk => trivial)))⟩; have n2_ : Aside0 (Kd.R k71 71 w53 w.heap.size (fun k_ => k_ ≠ gb240) (.slice (some ad239) x5_1.length co26) x5_1) := ⟨(by rw [hw]; exact (by (with_reducible repeat (first | apply Kd.R_alloc | apply Kd.R_drewN | apply Kd.R_drew)); exact Kd.R_mono (Kd.R_far (p := ⟨gb240, 1, none⟩) (Kd.R_far (p := ⟨gb240, 0, none⟩) (Kd.R_mono HO_78.out (fun k_ hk => (⟨hk, hk.2⟩ : _ ∧ k_ ≠ gb240))) (fun _ hk => hk.2) (.int .i32 ((rd_T71 x5_1 x80_2).f0))) (fun _ hk => hk.2) (.int .u8 ((rd_T71 x5_1 x80_2).f1))) (fun _ hk => hk.1.2)))⟩; have n3_ : Aside0 (w53.heap[gb240]? = some (.cells #[.int .i32 ((rd_T71 x5_1 x80_2).f0), .int .u8 ((rd_T71 x5_1 x80_2).f1)] 71 (0, 0))) := ⟨(by rw [hw]; exact (by (with_reducible repeat (first | refine blk_drewN ?_ _ | refine blk_drew ?_ | refine blk_alloc ?_ _)); refine blk_put (cs := #[.int .i32 ((rd_T71 x5_1 x80_2).f0), .int .u8 0]) ?_ 1 _ rfl; (with_reducible repeat (first | refine blk_drewN ?_ _ | refine blk_drew ?_ | refine blk_alloc ?_ _)); refine blk_put (cs := #[.int .i32 0, .int .u8 0]) ?_ 0 _ rfl; (with_reducible repeat (first | refine blk_drewN ?_ _ | refine blk_drew ?_ | refine blk_alloc ?_ _)); exact BK240.out))⟩; have n4_ : Aside0 (Below w.heap.size w w53) := ⟨(by rw [hw]; exact (by repeat (first | (with_reducible first | exact HB.out | apply below_alloc | apply pw_below_drewN | apply below_drew1 | refine below_set ?_ GE240.out) | exact HB.out)))⟩; clear hw; clear HO_5; clear HO_7; clear HO_78; clear BK240; clear HB; have HO_5 := n0_; have HO_7 := n1_; have HO_78 := n2_; have BK240 := n3_; have HB := n4_; clear n0_ n1_ n2_ n3_ n4_; have p241 : 0 ≤ (x80_2 : Int) := of_decide_eq_true (by first | (with_reducible assumption) | assumption); have q241 : x80_2 < (x7_2.length : Int) := of_decide_eq_true (by first | (with_reducible assumption) | assumption); obtain ⟨ad241, e241, hx241_0⟩ := Kd.at_bool (Kd.R_reads' HO_7.out).2.2 x80_2 p241 q241; (try rw [← Nbq35.out] at hx241_0); obtain rfl : (⟨go25, 0, none⟩ : Addr) = ad241 := (by injection e241); (first | simp only [add_plain] at hx241_0 | simp only [add_at] at hx241_0 | simp only [Addr.add, Nat.zero_add] at hx241_0 | skip); replace p241 := eq_true p241; replace q241 := eq_true q241; have p50 : 0 ≤ ((ji47) : Int) := of_decide_eq_true (by first | (with_reducible assumption) | assumption); have q50 : ((ji47) : Int) < ((x7_2.length : Int) : Int) := of_decide_eq_true (by first | (with_reducible assumption) | assumption); obtain ⟨hx50_0, hf50_0⟩ := Kd.R_celln false HO_7.out ((ji47) : Int) p50 q50; replace p50 := eq_true p50; replace q50 := eq_true q50; obtain ⟨hy54_, hz54_⟩ := Kd.R_celln false HO_7.out ((ji47) : Int) (of_decide_eq_true (by first | (with_reducible assumption) | assumption)) (of_decide_eq_true (by first | (with_reducible assumption) | assumption)); have HP54 := Kd.R_putg HO_7.out ((ji47) : Int) false) | ((with_reducible refine gate_store (t := 4) (p := 97) rfl ?_); refine store_event (t := 4) (p := 97) (v := ?vo_w55) (w1 := (w53.setCell ⟨go25, ((ji47) : Int).toNat, none⟩ (.bool false))) ?hg ?ho ?hn ?hr ?_; (case ho => rfl); (case hg => rfl); (case hn => rfl); (case hr => first | (go_simp; done) | (go_simp; rfl)); intro w55 hw; have hg : w53.grownBy w55 (some go25) := (by rw [hw]; exact HP54.2); have hp_ : Kd.R Kd.bool 4 w55 w.heap.size (fun _ => True) (.slice (some ⟨go25, 0, none⟩) x7_2.length co25) y243 := (by rw [hw, Ny243.out]; exact HP54.1); clear HP54; have n0_ := Aside0.mk (Kd.R_over' (v := (.slice (some ⟨go25, 0, none⟩) x7_2.length co25)) (by (with_reducible repeat (first | apply Kd.R_alloc | apply Kd.R_drewN | apply Kd.R_drew)); exact HO_5.out) (Kd.R_typed HO_7.out) (by decide) hg); have n1_ := Aside0.mk (hp_); have n2_ := Aside0.mk (Kd.R_over' (v := (.slice (some ⟨go25, 0, none⟩) x7_2.length co25)) (by (with_reducible repeat (first | apply Kd.R_alloc | apply Kd.R_drewN | apply Kd.R_drew)); exact HO_78.out) (Kd.R_typed HO_7.out) (by decide) hg); have n3_ := Aside0.mk (blk_grown (g := gb240) (o := .cells #[.int .i32 ((rd_T71 x5_1 x80_2).f0), .int .u8 ((rd_T71 x5_1 x80_2).f1)] 71 (0, 0)) (by (with_reducible repeat (first | refine blk_drewN ?_ _ | refine blk_drew ?_ | refine blk_alloc ?_ _)); exact BK240.out) hg (Kd.R_ne HO_7.out BK240.out (by decide))); have n4_ := Aside0.mk ((by rw [hw]; exact below_set (HB.out) GB25.out : Below w.heap.size w w55)); clear HO_5; clear HO_7; clear HO_78; clear BK240; clear HB; have HO_5 := n0_; have HO_7 := n1_; have HO_78 := n2_; have BK240 := n3_; have HB := n4_; clear n0_ n1_ n2_ n3_ n4_; clear hg hw hp_))
                (try simp only [← hl7_2])
                go_roundg k2
                case measure => have := HK1.out; have := HK2.out; omega
                case rel => exact ⟨(y243), (ji47), (by first | rfl | (simp; done) | (simp only [← hji47] <;> (first | rfl | simp)) | (simp [*]; done)), H', ⟨by have := HK1.out; have := HK2.out; omega⟩, ⟨by (try simp only [hl7_2]); (with_reducible repeat (first | apply Kd.R_alloc | apply Kd.R_drewN | apply Kd.R_drew)); exact Kd.R_mono HO_5.out (fun _ hk => trivial)⟩, ⟨by (try simp only [hl7_2]); (with_reducible repeat (first | apply Kd.R_alloc | apply Kd.R_drewN | apply Kd.R_drew)); exact HO_7.out⟩, ⟨by (try simp only [hl7_2]); (with_reducible repeat (first | apply Kd.R_alloc | apply Kd.R_drewN | apply Kd.R_drew)); exact Kd.R_mono HO_78.out (fun _ hk => trivial)⟩, ⟨by repeat (first | (with_reducible first | exact HB.out | apply below_alloc | apply pw_below_drewN | apply below_drew1 | refine below_set ?_ GE240.out) | exact HB.out)⟩⟩
               ·rw [if_neg c49] at H
                exact absurd H (by simp)
              ·rw [if_neg c48] at H
               exact absurd H (by simp)
            ·rw [if_neg c34] at H
             exact absurd H (by simp)
           ·rw [if_neg c33] at H
            exact absurd H (by simp)
          ·rw [if_neg c32] at H
           exact absurd H (by simp)
         ·rw [if_neg c31] at H
          have c31b0 : decide (x80_2 < (x5_1.length : Int)) = false := decide_eq_false c31
          clear c31
          have H' := Aside0.mk H
          clear H
          go_wp2
          go_loopg [7, 101] k2 (fun kq v7 v101 w' => ∃ (x7_3 : List Bool) (x101_3 : Int), v101 = .int .i64 x101_3 ∧ Aside0 (impl_like.l2 kq x5_1 x7_3 l0 (l0.length : Int) x101_3 = some r) ∧ Aside0 (kq ≤ k2) ∧ Aside0 (Kd.R k71 71 w' w.heap.size (fun _ => True) (.slice Ao26 x5_1.length co26) x5_1) ∧ Aside0 (Kd.R Kd.bool 4 w' w.heap.size (fun _ => True) v7 x7_3) ∧ Aside0 (Below w.heap.size w w'))
          case atStart => exact ⟨(x7_2), (0), (by first | rfl | (simp; done) | (simp [*]; done)), H', ⟨Nat.le_refl _⟩, ⟨by (try simp only [hl7_2]); (with_reducible repeat (first | apply Kd.R_alloc | apply Kd.R_drewN | apply Kd.R_drew)); exact HO_5.out⟩, ⟨by (try simp only [hl7_2]); (with_reducible repeat (first | apply Kd.R_alloc | apply Kd.R_drewN | apply Kd.R_drew)); exact HO_7.out⟩, ⟨by repeat (first | (with_reducible first | exact HB.out | apply below_alloc | apply pw_below_drewN | apply below_drew1) | exact HB.out)⟩⟩
          case round =>
           clear H'
           try clear c1
           try clear c2
           try clear p2
           try clear q2
           try clear hx2
           try clear qi2
           try clear hf2
           try clear c3
           try clear c3b0
           try clear q3
           try clear c4
           try clear c4b0
           try clear p4
           try clear q4
           try clear hx4
           try clear hf4
           try clear c5
           try clear c5b0
           try clear c5b1
           try clear p5
           try clear q5
           try clear hx5
           try clear hf5
           try clear c6
           try clear p6
           try clear c8
           try clear c8b0
           try clear c8b1
           try clear c9
           try clear c11
           try clear c11b0
           try clear c11b1
           try clear c12
           try clear c12b0
           try clear c14
           try clear c14b0
           try clear c15
           try clear c17
           try clear c19
           try clear p21
           try clear q21
           try clear hx21
           try clear c22
           try clear c22b0
           try clear c22b1
           try clear p22
           try clear q22
           try clear hx22
           try clear c23
           try clear c23b0
           try clear c23b1
           try clear p23
           try clear q23
           try clear hx23
           try clear c24
           try clear c24b0
           try clear c24b1
           try clear p24
           try clear q24
           try clear hx24
           try clear p25
           try clear q25
           try clear hx25
           try clear qi25
           try clear hf25
           try clear c30
           try clear c31
           try clear c31b0
           try clear c32
           try clear c32b0
           try clear c33
           try clear c33b0
           try clear c34
           try clear c34b0
           try clear q35
           try clear c36
           try clear c38
           try clear c38b0
           try clear c39
           try clear c39b0
           try clear p40
           try clear q40
           try clear hx40
           try clear hf40
           try clear c48
           try clear c48b0
           try clear c49
           try clear c49b0
           try clear p50
           try clear q50
           try clear hx50
           try clear hf50
           try clear hcz42_0
           try clear hcz42_1
           try clear hcz44_0
           try clear hcz44_1
           try clear hcz52_0
           try clear hcz52_1
           try clear hfz42_0
           try clear hfz42_1
           try clear hfz44_0
           try clear hfz44_1
           try clear hfz52_0
           try clear hfz52_1
           try clear hx214_0
           try clear hx218_0
           try clear hx222_0
           try clear hx223_0
           try clear hx227_0
           try clear hx231_0
           try clear hx239_0
           try clear hx239_1
           try clear hx241_0
           try clear hx25_0
           try clear hx40_0
           try clear hx50_0
           try clear p2
           try clear p21
           try clear p214
           try clear p218
           try clear p22
           try clear p222
           try clear p223
           try clear p227
           try clear p23
           try clear p231
           try clear p239
           try clear p241
           try clear p25
           try clear p40
           try clear p50
           try clear p6
           try clear q2
           try clear q21
           try clear q214
           try clear q218
           try clear q22
           try clear q222
           try clear q223
           try clear q227
           try clear q23
           try clear q231
           try clear q239
           try clear q241
           try clear q25
           try clear q40
           try clear q50
           obtain ⟨x7_3, x101_3, rfl, HA, HK3, HO_5, HO_7, HB⟩ := hrel
           cases gk with
           | zero => exact absurd HA.out (by simp [impl_like.l2])
           | succ k3 =>
            have H := HA.out
            clear HA
            simp only [impl_like.l2] at H
            by_cases c56 : x101_3 < (l0.length : Int)
            ·rw [if_pos c56] at H
             have c56b0 : decide (x101_3 < (l0.length : Int)) = true := decide_eq_true c56
             clear c56
             by_cases c57 : 0 ≤ x101_3
             ·rw [if_pos c57] at H
              have c57b0 : decide (0 ≤ x101_3) = true := decide_eq_true c57
              clear c57
              by_cases c58 : x101_3 < (l0.length : Int)
              ·rw [if_pos c58] at H
               have c58b0 : decide (x101_3 < (l0.length : Int)) = true := decide_eq_true c58
               clear c58
               obtain ⟨ji59, hji59⟩ : ∃ j_ : Int, (wrap64 ((x5_1.length : Int) + 1)) = j_ := ⟨_, rfl⟩
               replace H : (if 0 ≤ (ji59) then (if (ji59 : Int).toNat ≤ 281474976710656 then (impl_like.l3 k3 x5_1 x7_3 (rd l0 x101_3) (List.replicate (ji59 : Int).toNat false) l0 (l0.length : Int) x101_3 x5_1 (x5_1.length : Int) 0) else (none)) else (none)) = some r := by first | (rw [hji59] at H; exact H) | (simp only [hji59] at H ⊢; exact H)
               try clear hji21w
               have hji59w : (IntKind.i64.wrap ((x5_1.length : Int) + 1)) = ji59 := (i64_w _).trans hji59
               by_cases c60 : 0 ≤ (ji59)
               ·rw [if_pos c60] at H
                have c60b0 := eq_true c60
                have c60b1 : decide (0 ≤ (ji59)) = true := decide_eq_true c60
                clear c60
                by_cases c61 : (ji59 : Int).toNat ≤ 281474976710656
                ·rw [if_pos c61] at H
                 have c61b0 := eq_true c61
                 have c61b1 : decide ((ji59 : Int).toNat ≤ 281474976710656) = true := decide_eq_true c61
                 clear c61
                 obtain ⟨y246, hy246⟩ : ∃ y_ : List Bool, y_ = (List.replicate (ji59 : Int).toNat false) := ⟨_, rfl⟩
                 replace H : (impl_like.l3 k3 x5_1 x7_3 (rd l0 x101_3) y246 l0 (l0.length : Int) x101_3 x5_1 (x5_1.length : Int) 0) = some r := by first | (rw [hy246]; with_reducible exact H) | (have H2_ := (Option.bind_some _ _).symm.trans H; rw [hy246]; with_reducible exact H2_) | (have H2_ := (Option.bind_some _ _).symm.trans H; with_reducible exact H2_) | with_reducible exact H | (rw [hy246]; exact H) | exact H
                 have Ny246 := Aside0.mk hy246
                 clear hy246
                 have H' := Aside0.mk H
                 clear H
                 have p245 : 0 ≤ (x101_3 : Int) := of_decide_eq_true (by first | (with_reducible assumption) | assumption)
                 have q245 : x101_3 < (l0.length : Int) := of_decide_eq_true (by first | (with_reducible assumption) | assumption)
                 obtain ⟨ad245, e245, hx245_0⟩ := Kd.at_int HR0.out x101_3 p245 q245
                 cases e245
                 replace hx245_0 := (HB.out.cell (World.block_lt_of_cell? w _ hx245_0)).trans hx245_0
                 replace p245 := eq_true p245
                 replace q245 := eq_true q245
                 go_wp2_with (first | ((with_reducible refine gate_dst (N := 108) rfl ?_); (try (refine gate_guard (by rfl) ?_; dsimp only)); refine Kd.R_make Kd.bool _ 4 rfl (N := 108) rfl 51 _ _ rfl ji59 rfl rfl Tryd.underlying51 (.bool false) 1 info4 rfl (by decide) (by omega) false (ok := fun _ => True) (okp := fun _ => True) rfl (fun _ hk => hk) trivial (of_decide_eq_true (by first | (with_reducible assumption) | assumption)) (Nat.le_trans (Nat.mul_le_mul_right _ (of_decide_eq_true (by first | (with_reducible assumption) | assumption) : ji59.toNat ≤ 281474976710656)) (by omega)) (Below.refl _ _) (Nat.le_refl _) ?_; intro v247 w62 ho63 hb hg_ hnew_; clear hg_ hnew_; (first | rw [← Ny246.out] at ho63 | (simp only [Int.reduceToNat] at ho63; rw [← Ny246.out] at ho63)); have n0_ := Aside0.mk (Kd.R_below (by (with_reducible repeat (first | apply Kd.R_alloc | apply Kd.R_drewN | apply Kd.R_drew)); exact HO_5.out) hb); have n1_ := Aside0.mk (Kd.R_elder' (by (with_reducible repeat (first | apply Kd.R_alloc | apply Kd.R_drewN | apply Kd.R_drew)); exact HO_7.out) (Kd.R_base ho63) hb); have n2_ := Aside0.mk (Kd.R_lower (Kd.R_new' ho63 (Kd.R_lt (by (with_reducible repeat (first | apply Kd.R_alloc | apply Kd.R_drewN | apply Kd.R_drew)); exact HO_7.out))) (below_size (by repeat (first | (with_reducible first | exact HB.out | apply below_alloc | apply pw_below_drewN | apply below_drew1) | exact HB.out)))); have n3_ := Aside0.mk (below_step (by repeat (first | (with_reducible first | exact HB.out | apply below_alloc | apply pw_below_drewN | apply below_drew1) | exact HB.out)) hb); clear HO_5; clear HO_7; clear HB; have HO_5 := n0_; have HO_7 := n1_; have HO248 := n2_; have HB := n3_; clear n0_ n1_ n2_ n3_; clear hb ho63))
                 go_loopg [111] k3 (fun kq v111 w' => ∃ (x12_4 : List Bool) (x111_4 : Int), v111 = .int .i64 x111_4 ∧ Aside0 (impl_like.l3 kq x5_1 x7_3 (rd l0 x101_3) x12_4 l0 (l0.length : Int) x101_3 x5_1 (x5_1.length : Int) x111_4 = some r) ∧ Aside0 (kq ≤ k3) ∧ Aside0 (Kd.R k71 71 w' w.heap.size (fun _ => True) (.slice Ao26 x5_1.length co26) x5_1) ∧ Aside0 (Kd.R Kd.bool 4 w' w.heap.size (fun k_ => some k_ ≠ (v247 : Value).ownBlock) u7 x7_3) ∧ Aside0 (Kd.R Kd.bool 4 w' w.heap.size (fun k_ => some k_ ≠ (u7 : Value).ownBlock) v247 x12_4) ∧ Aside0 (Kd.R k71 71 w' w.heap.size (fun _ => True) (.slice Ao26 x5_1.length co26) x5_1) ∧ Aside0 (Below w.heap.size w w'))
                 case atStart => exact ⟨(y246), (0), (by first | rfl | (simp; done) | (simp [*]; done)), H', ⟨Nat.le_refl _⟩, ⟨by (try simp only [hl7_2]); (with_reducible repeat (first | apply Kd.R_alloc | apply Kd.R_drewN | apply Kd.R_drew)); exact HO_5.out⟩, ⟨by (try simp only [hl7_2]); (with_reducible repeat (first | apply Kd.R_alloc | apply Kd.R_drewN | apply Kd.R_drew)); exact Kd.R_mono HO_7.out (fun _ hk => hk.2)⟩, ⟨by (try simp only [hl7_2]); (with_reducible repeat (first | apply Kd.R_alloc | apply Kd.R_drewN | apply Kd.R_drew)); exact Kd.R_mono HO248.out (fun _ hk => hk.2)⟩, ⟨by (try simp only [hl7_2]); (with_reducible repeat (first | apply Kd.R_alloc | apply Kd.R_drewN | apply Kd.R_drew)); exact HO_5.out⟩, ⟨by repeat (first | (with_reducible first | exact HB.out | apply below_alloc | apply pw_below_drewN | apply below_drew1) | exact HB.out)⟩⟩
                 case round =>
                  clear H'
                  try clear c1
                  try clear c2
                  try clear p2
                  try clear q2
                  try clear hx2
                  try clear qi2
                  try clear hf2
                  try clear c3
                  try clear c3b0
                  try clear q3
                  try clear c4
                  try clear c4b0
                  try clear p4
                  try clear q4
                  try clear hx4
                  try clear hf4
                  try clear c5
                  try clear c5b0
                  try clear c5b1
                  try clear p5
                  try clear q5
                  try clear hx5
                  try clear hf5
                  try clear c6
                  try clear p6
                  try clear c8
                  try clear c8b0
                  try clear c8b1
                  try clear c9
                  try clear c11
                  try clear c11b0
                  try clear c11b1
                  try clear c12
                  try clear c12b0
                  try clear c14
                  try clear c14b0
                  try clear c15
                  try clear c17
                  try clear c19
                  try clear p21
                  try clear q21
                  try clear hx21
                  try clear c22
                  try clear c22b0
                  try clear c22b1
                  try clear p22
                  try clear q22
                  try clear hx22
                  try clear c23
                  try clear c23b0
                  try clear c23b1
                  try clear p23
                  try clear q23
                  try clear hx23
                  try clear c24
                  try clear c24b0
                  try clear c24b1
                  try clear p24
                  try clear q24
                  try clear hx24
                  try clear p25
                  try clear q25
                  try clear hx25
                  try clear qi25
                  try clear hf25
                  try clear c30
                  try clear c31
                  try clear c31b0
                  try clear c32
                  try clear c32b0
                  try clear c33
                  try clear c33b0
                  try clear c34
                  try clear c34b0
                  try clear q35
                  try clear c36
                  try clear c38
                  try clear c38b0
                  try clear c39
                  try clear c39b0
                  try clear p40
                  try clear q40
                  try clear hx40
                  try clear hf40
                  try clear c48
                  try clear c48b0
                  try clear c49
                  try clear c49b0
                  try clear p50
                  try clear q50
                  try clear hx50
                  try clear hf50
                  try clear c56
                  try clear c56b0
                  try clear c57
                  try clear c57b0
                  try clear c58
                  try clear c58b0
                  try clear c60
                  try clear c60b0
                  try clear c60b1
                  try clear c61
                  try clear c61b0
                  try clear c61b1
                  try clear hcz42_0
                  try clear hcz42_1
                  try clear hcz44_0
                  try clear hcz44_1
                  try clear hcz52_0
                  try clear hcz52_1
                  try clear hfz42_0
                  try clear hfz42_1
                  try clear hfz44_0
                  try clear hfz44_1
                  try clear hfz52_0
                  try clear hfz52_1
                  try clear hx214_0
                  try clear hx218_0
                  try clear hx222_0
                  try clear hx223_0
                  try clear hx227_0
                  try clear hx231_0
                  try clear hx239_0
                  try clear hx239_1
                  try clear hx241_0
                  try clear hx245_0
                  try clear hx25_0
                  try clear hx40_0
                  try clear hx50_0
                  try clear p2
                  try clear p21
                  try clear p214
                  try clear p218
                  try clear p22
                  try clear p222
                  try clear p223
                  try clear p227
                  try clear p23
                  try clear p231
                  try clear p239
                  try clear p24
                  try clear p241
                  try clear p245
                  try clear p25
                  try clear p4
                  try clear p40
                  try clear p5
                  try clear p50
                  try clear p6
                  try clear q2
                  try clear q21
                  try clear q214
                  try clear q218
                  try clear q22
                  try clear q222
                  try clear q223
                  try clear q227
                  try clear q23
                  try clear q231
                  try clear q239
                  try clear q24
                  try clear q241
                  try clear q245
                  try clear q25
                  try clear q3
                  try clear q35
                  try clear q4
                  try clear q40
                  try clear q5
                  try clear q50
                  obtain ⟨x12_4, x111_4, rfl, HA, HK4, HO_5, HO_7, HO_12, HO_109, HB⟩ := hrel
                  cases gk with
                  | zero => exact absurd HA.out (by simp [impl_like.l3])
                  | succ k4 =>
                   have H := HA.out
                   clear HA
                   simp only [impl_like.l3] at H
                   by_cases c64 : x111_4 < (x5_1.length : Int)
                   ·rw [if_pos c64] at H
                    have c64b0 : decide (x111_4 < (x5_1.length : Int)) = true := decide_eq_true c64
                    clear c64
                    by_cases c65 : 0 ≤ x111_4
                    ·rw [if_pos c65] at H
                     have c65b0 : decide (0 ≤ x111_4) = true := decide_eq_true c65
                     clear c65
                     by_cases c66 : x111_4 < (x5_1.length : Int)
                     ·rw [if_pos c66] at H
                      have c66b0 : decide (x111_4 < (x5_1.length : Int)) = true := decide_eq_true c66
                      clear c66
                      by_cases c67 : ((rd_T71 x5_1 x111_4).f1) = 37
                      ·rw [if_pos c67] at H
                       have c67b0 : (((rd_T71 x5_1 x111_4).f1) == 37) = true := beq_iff_eq.mpr c67
                       have c67b1 : (((rd_T71 x5_1 x111_4).f1) != 37) = false := bne_eq_false_iff_eq.mpr c67
                       clear c67
                       by_cases c68 : x111_4 < (x12_4.length : Int)
                       ·rw [if_pos c68] at H
                        have c68b0 : decide (x111_4 < (x12_4.length : Int)) = true := decide_eq_true c68
                        clear c68
                        obtain ⟨bq69, hbq69⟩ : ∃ b_ : Bool, b_ = (rdOf false x12_4 x111_4) := ⟨_, rfl⟩
                        replace H : (if bq69 = true then (if 0 ≤ (wrap64 (x111_4 + 1)) then (if (wrap64 (x111_4 + 1)) < (x12_4.length : Int) then (impl_like.l3 k4 x5_1 x7_3 (rd l0 x101_3) (x12_4.set ((wrap64 (x111_4 + 1)) : Int).toNat true) l0 (l0.length : Int) x101_3 x5_1 (x5_1.length : Int) (wrap64 (x111_4 + 1))) else (none)) else (none)) else (if 0 ≤ (wrap64 (x111_4 + 1)) then (if (wrap64 (x111_4 + 1)) < (x7_3.length : Int) then (if (wrap64 (x111_4 + 1)) < (x12_4.length : Int) then (impl_like.l3 k4 x5_1 x7_3 (rd l0 x101_3) (x12_4.set ((wrap64 (x111_4 + 1)) : Int).toNat (rdOf false x7_3 (wrap64 (x111_4 + 1)))) l0 (l0.length : Int) x101_3 x5_1 (x5_1.length : Int) (wrap64 (x111_4 + 1))) else (none)) else (none)) else (none))) = some r := by rw [← hbq69] at H; exact H
                        have Nbq69 := Aside0.mk hbq69
                        clear hbq69
                        by_cases c70 : bq69 = true
                        ·subst c70
                         have H1 : (if 0 ≤ (wrap64 (x111_4 + 1)) then (if (wrap64 (x111_4 + 1)) < (x12_4.length : Int) then (impl_like.l3 k4 x5_1 x7_3 (rd l0 x101_3) (x12_4.set ((wrap64 (x111_4 + 1)) : Int).toNat true) l0 (l0.length : Int) x101_3 x5_1 (x5_1.length : Int) (wrap64 (x111_4 + 1))) else (none)) else (none)) = some r := by rw [if_pos rfl] at H; exact H
                         clear H
                         have H := H1
                         clear H1
                         obtain ⟨ji71, hji71⟩ : ∃ j_ : Int, (wrap64 (x111_4 + 1)) = j_ := ⟨_, rfl⟩
                         replace H : (if 0 ≤ (ji71) then (if (ji71) < (x12_4.length : Int) then (impl_like.l3 k4 x5_1 x7_3 (rd l0 x101_3) (x12_4.set ((ji71) : Int).toNat true) l0 (l0.length : Int) x101_3 x5_1 (x5_1.length : Int) ji71) else (none)) else (none)) = some r := by first | (rw [hji71] at H; exact H) | (simp only [hji71] at H ⊢; exact H)
                         have hji71w : (IntKind.i64.wrap (x111_4 + 1)) = ji71 := (i64_w _).trans hji71
                         by_cases c72 : 0 ≤ (ji71)
                         ·rw [if_pos c72] at H
                          have c72b0 : decide (0 ≤ (ji71)) = true := decide_eq_true c72
                          clear c72
                          by_cases c73 : (ji71) < (x12_4.length : Int)
                          ·rw [if_pos c73] at H
                           have c73b0 : decide ((ji71) < (x12_4.length : Int)) = true := decide_eq_true c73
                           clear c73
                           obtain ⟨y252, hy252⟩ : ∃ y_ : List Bool, y_ = (x12_4.set ((ji71) : Int).toNat true) := ⟨_, rfl⟩
                           replace H : (impl_like.l3 k4 x5_1 x7_3 (rd l0 x101_3) y252 l0 (l0.length : Int) x101_3 x5_1 (x5_1.length : Int) ji71) = some r := by first | (rw [hy252]; with_reducible exact H) | (have H2_ := (Option.bind_some _ _).symm.trans H; rw [hy252]; with_reducible exact H2_) | (have H2_ := (Option.bind_some _ _).symm.trans H; with_reducible exact H2_) | with_reducible exact H | (rw [hy252]; exact H) | exact H
                           have Ny252 := Aside0.mk hy252
                           clear hy252
                           have H' := Aside0.mk H
                           clear H
                           have p249 : 0 ≤ (x111_4 : Int) := of_decide_eq_true (by first | (with_reducible assumption) | assumption)
                           have q249 : x111_4 < (x5_1.length : Int) := of_decide_eq_true (by first | (with_reducible assumption) | assumption)
                           obtain ⟨ad249, e249, hx249_0, hx249_1⟩ := at_T71 (Kd.R_reads' HO_109.out).2.2 x111_4 p249 q249
                           cases e249
                           replace p249 := eq_true p249
                           replace q249 := eq_true q249
                           go_wp2_with (first | ((with_reducible refine gate_dst (N := 14) rfl ?_); (try (refine gate_guard (by rfl) ?_; dsimp only)); refine box_event ?hg (N := 14) ?hd (cs := #[.int .i32 0, .int .u8 0]) (t := 71) ?hr ?_; (case hd => rfl); (case hg => rfl); (case hr => first | (go_simp; done) | (go_simp; rfl)); intro gb250 hg w75 hbox hb; have n0_ := Aside0.mk (Kd.R_below (Kd.R_elderB (by (with_reducible repeat (first | apply Kd.R_alloc | apply Kd.R_drewN | apply Kd.R_drew)); exact HO_5.out) gb250 (Nat.le_of_eq hg.symm)) hb); have n1_ := Aside0.mk (Kd.R_below (by (with_reducible repeat (first | apply Kd.R_alloc | apply Kd.R_drewN | apply Kd.R_drew)); exact HO_7.out) hb); have n2_ := Aside0.mk (Kd.R_below (by (with_reducible repeat (first | apply Kd.R_alloc | apply Kd.R_drewN | apply Kd.R_drew)); exact HO_12.out) hb); have n3_ := Aside0.mk (Kd.R_below (Kd.R_elderB (by (with_reducible repeat (first | apply Kd.R_alloc | apply Kd.R_drewN | apply Kd.R_drew)); exact HO_109.out) gb250 (Nat.le_of_eq hg.symm)) hb); have n4_ := Aside0.mk (below_step (by repeat (first | (with_reducible first | exact HB.out | apply below_alloc | apply pw_below_drewN | apply below_drew1) | exact HB.out)) hb); have n5_ := Aside0.mk (hbox); have n6_ := Aside0.mk ((by rw [hg]; exact (below_size (by repeat (first | (with_reducible first | exact HB.out | apply below_alloc | apply pw_below_drewN | apply below_drew1) | exact HB.out))) : w.heap.size ≤ gb250)); have n7_ := Aside0.mk ((by rw [hg]; exact (below_size (by repeat (first | (with_reducible first | exact HB.out | apply below_alloc | apply pw_below_drewN | apply below_drew1) | exact HB.out))) : w.heap.size ≤ gb250)); clear HO_5; clear HO_7; clear HO_12; clear HO_109; clear HB; have HO_5 := n0_; have HO_7 := n1_; have HO_12 := n2_; have HO_109 := n3_; have HB := n4_; have BK250 := n5_; have GW250 := n6_; have GE250 := n7_; clear n0_ n1_ n2_ n3_ n4_ n5_ n6_ n7_; clear hb hbox hg; have hcz76_0 : w75.cell? ⟨gb250, 0, none⟩ = some (.int .i32 0) := (blk_cell BK250.out 0).trans rfl; have hcz76_1 : w75.cell? ⟨gb250, 1, none⟩ = some (.int .u8 0) := (blk_cell BK250.out 1).trans rfl; have hfz76_0 := blk_frozen BK250.out 0; have hfz76_1 := blk_frozen BK250.out 1) | ((with_reducible refine gate_store (t := 71) (p := 14) rfl ?_); refine store_event (t := 71) (p := 14) (v := ?vo_w77) (w1 := ((w75.setCell ⟨gb250, 0, none⟩ (.int .i32 ((rd_T71 x5_1 x111_4).f0))).setCell ⟨gb250, 1, none⟩ (.int .u8 ((rd_T71 x5_1 x111_4).f1)))) ?hg ?ho ?hn ?hr ?_; (case ho => rfl); (case hg => rfl); (case hn => rfl); (case hr => first | (go_simp; done) | (go_simp; rfl)); intro w77 hw; have n0_ : Aside0 (Kd.R k71 71 w77 w.heap.size (fun k_ => k_ ≠ gb250) (.slice (some ad249) x5_1.length co26) x5_1) := ⟨(by rw [hw]; exact (by (with_reducible repeat (first | apply Kd.R_alloc | apply Kd.R_drewN | apply Kd.R_drew)); exact Kd.R_mono (Kd.R_far (p := ⟨gb250, 1, none⟩) (Kd.R_far (p := ⟨gb250, 0, none⟩) (Kd.R_mono HO_5.out (fun k_ hk => (⟨hk, hk.2⟩ : _ ∧ k_ ≠ gb250))) (fun _ hk => hk.2) (.int .i32 ((rd_T71 x5_1 x111_4).f0))) (fun _ hk => hk.2) (.int .u8 ((rd_T71 x5_1 x111_4).f1))) (fun _ hk => hk.1.2)))⟩; have n1_ : Aside0 (Kd.R Kd.bool 4 w77 w.heap.size (fun k_ => some k_ ≠ (v247 : Value).ownBlock) u7 x7_3) := ⟨(by rw [hw]; exact (by (with_reducible repeat (first | apply Kd.R_alloc | apply Kd.R_drewN | apply Kd.R_drew)); exact Kd.R_mono (Kd.R_far (p := ⟨gb250, 1, none⟩) (Kd.R_far (p := ⟨gb250, 0, none⟩) (Kd.R_types HO_7.out BK250.out (by decide)) (fun _ hk => hk.2) (.int .i32 ((rd_T71 x5_1 x111_4).f0))) (fun _ hk => hk.2) (.int .u8 ((rd_T71 x5_1 x111_4).f1))) (fun _ hk => hk.1)))⟩; have n2_ : Aside0 (Kd.R Kd.bool 4 w77 w.heap.size (fun k_ => some k_ ≠ (u7 : Value).ownBlock) v247 x12_4) := ⟨(by rw [hw]; exact (by (with_reducible repeat (first | apply Kd.R_alloc | apply Kd.R_drewN | apply Kd.R_drew)); exact Kd.R_mono (Kd.R_far (p := ⟨gb250, 1, none⟩) (Kd.R_far (p := ⟨gb250, 0, none⟩) (Kd.R_types HO_12.out BK250.out (by decide)) (fun _ hk => hk.2) (.int .i32 ((rd_T71 x5_1 x111_4).f0))) (fun _ hk => hk.2) (.int .u8 ((rd_T71 x5_1 x111_4).f1))) (fun _ hk => hk.1)))⟩; have n3_ : Aside0 (Kd.R k71 71 w77 w.heap.size (fun k_ => k_ ≠ gb250) (.slice (some ad249) x5_1.length co26) x5_1) := ⟨(by rw [hw]; exact (by (with_reducible repeat (first | apply Kd.R_alloc | apply Kd.R_drewN | apply Kd.R_drew)); exact Kd.R_mono (Kd.R_far (p := ⟨gb250, 1, none⟩) (Kd.R_far (p := ⟨gb250, 0, none⟩) (Kd.R_mono HO_109.out (fun k_ hk => (⟨hk, hk.2⟩ : _ ∧ k_ ≠ gb250))) (fun _ hk => hk.2) (.int .i32 ((rd_T71 x5_1 x111_4).f0))) (fun _ hk => hk.2) (.int .u8 ((rd_T71 x5_1 x111_4).f1))) (fun _ hk => hk.1.2)))⟩; have n4_ : Aside0 (w77.heap[gb250]? = some (.cells #[.int .i32 ((rd_T71 x5_1 x111_4).f0), .int .u8 ((rd_T71 x5_1 x111_4).f1)] 71 (0, 0))) := ⟨(by rw [hw]; exact (by (with_reducible repeat (first | refine blk_drewN ?_ _ | refine blk_drew ?_ | refine blk_alloc ?_ _)); refine blk_put (cs := #[.int .i32 ((rd_T71 x5_1 x111_4).f0), .int .u8 0]) ?_ 1 _ rfl; (with_reducible repeat (first | refine blk_drewN ?_ _ | refine blk_drew ?_ | refine blk_alloc ?_ _)); refine blk_put (cs := #[.int .i32 0, .int .u8 0]) ?_ 0 _ rfl; (with_reducible repeat (first | refine blk_drewN ?_ _ | refine blk_drew ?_ | refine blk_alloc ?_ _)); exact BK250.out))⟩; have n5_ : Aside0 (Below w.heap.size w w77) := ⟨(by rw [hw]; exact (by repeat (first | (with_reducible first | exact HB.out | apply below_alloc | apply pw_below_drewN | apply below_drew1 | refine below_set ?_ GE250.out) | exact HB.out)))⟩; clear hw; clear HO_5; clear HO_7; clear HO_12; clear HO_109; clear BK250; clear HB; have HO_5 := n0_; have HO_7 := n1_; have HO_12 := n2_; have HO_109 := n3_; have BK250 := n4_; have HB := n5_; clear n0_ n1_ n2_ n3_ n4_ n5_; have hcz78_0 : w77.cell? ⟨gb250, 0, none⟩ = some (.int .i32 ((rd_T71 x5_1 x111_4).f0)) := (blk_cell BK250.out 0).trans rfl; have hcz78_1 : w77.cell? ⟨gb250, 1, none⟩ = some (.int .u8 ((rd_T71 x5_1 x111_4).f1)) := (blk_cell BK250.out 1).trans rfl; have hfz78_0 := blk_frozen BK250.out 0; have hfz78_1 := blk_frozen BK250.out 1; obtain ⟨Ao79, co79, eo79⟩ := Kd.R_slice HO_12.out; subst eo79; have p251 : 0 ≤ (x111_4 : Int) := of_decide_eq_true (by first | (with_reducible assumption) | assumption); have q251 : x111_4 < (x12_4.length : Int) := of_decide_eq_true (by first | (with_reducible assumption) | assumption); obtain ⟨ad251, e251, hx251_0⟩ := Kd.at_bool (Kd.R_reads' HO_12.out).2.2 x111_4 p251 q251; (try rw [← Nbq69.out] at hx251_0); cases e251; replace p251 := eq_true p251; replace q251 := eq_true q251; have p74 : 0 ≤ ((ji71) : Int) := of_decide_eq_true (by first | (with_reducible assumption) | assumption); have q74 : ((ji71) : Int) < ((x12_4.length : Int) : Int) := of_decide_eq_true (by first | (with_reducible assumption) | assumption); obtain ⟨go74, co74, eo74, gb74, gl74, cl74, HG74⟩ := Kd.R_form HO_12.out (by omega); (first | cases eo74 | (injection eo74 with ea_ en_ ec_; (first | subst ea_ | (injection ea_ with ea_; subst ea_)); subst ec_; clear en_)); have GB74 := Aside0.mk gb74; have GG74 := Aside0.mk HG74; clear gb74 gl74 HG74; (first | simp only [add_plain] at hx251_0 | skip); obtain ⟨hx74_0, hf74_0⟩ := Kd.R_celln false HO_12.out ((ji71) : Int) p74 q74; replace p74 := eq_true p74; replace q74 := eq_true q74; obtain ⟨hy80_, hz80_⟩ := Kd.R_celln false HO_12.out ((ji71) : Int) (of_decide_eq_true (by first | (with_reducible assumption) | assumption)) (of_decide_eq_true (by first | (with_reducible assumption) | assumption)); have HP80 := Kd.R_putg HO_12.out ((ji71) : Int) true) | ((with_reducible refine gate_store (t := 4) (p := 148) rfl ?_); refine store_event (t := 4) (p := 148) (v := ?vo_w81) (w1 := (w77.setCell ⟨go74, ((ji71) : Int).toNat, none⟩ (.bool true))) ?hg ?ho ?hn ?hr ?_; (case ho => rfl); (case hg => rfl); (case hn => rfl); (case hr => first | (go_simp; done) | (go_simp; rfl)); intro w81 hw; have hg : w77.grownBy w81 (some go74) := (by rw [hw]; exact HP80.2); have hp_ : Kd.R Kd.bool 4 w81 w.heap.size (fun k_ => some k_ ≠ (u7 : Value).ownBlock) (.slice (some ⟨go74, 0, none⟩) x12_4.length co79) y252 := (by rw [hw, Ny252.out]; exact HP80.1); clear HP80; have n0_ := Aside0.mk (Kd.R_over' (v := (.slice (some ⟨go74, 0, none⟩) x12_4.length co79)) (by (with_reducible repeat (first | apply Kd.R_alloc | apply Kd.R_drewN | apply Kd.R_drew)); exact HO_5.out) (Kd.R_typed HO_12.out) (by decide) hg); have n1_ := Aside0.mk (Kd.R_after (v := (.slice (some ⟨go74, 0, none⟩) x12_4.length co79)) (v1 := (.slice (some ⟨go74, 0, none⟩) x12_4.length co79)) (ok := (fun _ => True)) (by (with_reducible repeat (first | apply Kd.R_alloc | apply Kd.R_drewN | apply Kd.R_drew)); exact Kd.R_mono HO_7.out (fun _ hk => ⟨trivial, hk⟩)) hg (.inl rfl)); have n2_ := Aside0.mk (hp_); have n3_ := Aside0.mk (Kd.R_over' (v := (.slice (some ⟨go74, 0, none⟩) x12_4.length co79)) (by (with_reducible repeat (first | apply Kd.R_alloc | apply Kd.R_drewN | apply Kd.R_drew)); exact HO_109.out) (Kd.R_typed HO_12.out) (by decide) hg); have n4_ := Aside0.mk (blk_grown (g := gb250) (o := .cells #[.int .i32 ((rd_T71 x5_1 x111_4).f0), .int .u8 ((rd_T71 x5_1 x111_4).f1)] 71 (0, 0)) (by (with_reducible repeat (first | refine blk_drewN ?_ _ | refine blk_drew ?_ | refine blk_alloc ?_ _)); exact BK250.out) hg (Kd.R_ne HO_12.out BK250.out (by decide))); have n5_ := Aside0.mk ((by rw [hw]; exact below_set (HB.out) GB74.out : Below w.heap.size w w81)); clear HO_5; clear HO_7; clear HO_12; clear HO_109; clear BK250; clear HB; have HO_5 := n0_; have HO_7 := n1_; have HO_12 := n2_; have HO_109 := n3_; have BK250 := n4_; have HB := n5_; clear n0_ n1_ n2_ n3_ n4_ n5_; clear hg hw hp_))
                           go_roundg k4
                           case measure => have := HK1.out; have := HK2.out; have := HK3.out; have := HK4.out; omega
                           case rel => exact ⟨(y252), (ji71), (by first | rfl | (simp; done) | (simp only [← hji71] <;> (first | rfl | simp)) | (simp [*]; done)), H', ⟨by have := HK1.out; have := HK2.out; have := HK3.out; have := HK4.out; omega⟩, ⟨by (try simp only [hl7_2]); (with_reducible repeat (first | apply Kd.R_alloc | apply Kd.R_drewN | apply Kd.R_drew)); exact Kd.R_mono HO_5.out (fun _ hk => trivial)⟩, ⟨by (try simp only [hl7_2]); (with_reducible repeat (first | apply Kd.R_alloc | apply Kd.R_drewN | apply Kd.R_drew)); exact Kd.R_mono HO_7.out (fun _ hk => hk.2)⟩, ⟨by (try simp only [hl7_2]); (with_reducible repeat (first | apply Kd.R_alloc | apply Kd.R_drewN | apply Kd.R_drew)); exact HO_12.out⟩, ⟨by (try simp only [hl7_2]); (with_reducible repeat (first | apply Kd.R_alloc | apply Kd.R_drewN | apply Kd.R_drew)); exact Kd.R_mono HO_109.out (fun _ hk => trivial)⟩, ⟨by repeat (first | (with_reducible first | exact HB.out | apply below_alloc | apply pw_below_drewN | apply below_drew1 | refine below_set ?_ GE250.out) | exact HB.out)⟩⟩
                          ·rw [if_neg c73] at H
                           exact absurd H (by simp)
                         ·rw [if_neg c72] at H
                          exact absurd H (by simp)
                        ·replace c70 := Bool.eq_false_iff.mpr c70
                         subst c70
                         have H1 : (if 0 ≤ (wrap64 (x111_4 + 1)) then (if (wrap64 (x111_4 + 1)) < (x7_3.length : Int) then (if (wrap64 (x111_4 + 1)) < (x12_4.length : Int) then (impl_like.l3 k4 x5_1 x7_3 (rd l0 x101_3) (x12_4.set ((wrap64 (x111_4 + 1)) : Int).toNat (rdOf false x7_3 (wrap64 (x111_4 + 1)))) l0 (l0.length : Int) x101_3 x5_1 (x5_1.length : Int) (wrap64 (x111_4 + 1))) else (none)) else (none)) else (none)) = some r := by rw [if_neg (show ¬ (false = true) by decide)] at H; exact H
                         clear H
                         have H := H1
                         clear H1
                         obtain ⟨ji82, hji82⟩ : ∃ j_ : Int, (wrap64 (x111_4 + 1)) = j_ := ⟨_, rfl⟩
                         replace H : (if 0 ≤ (ji82) then (if (ji82) < (x7_3.length : Int) then (if (ji82) < (x12_4.length : Int) then (impl_like.l3 k4 x5_1 x7_3 (rd l0 x101_3) (x12_4.set ((ji82) : Int).toNat (rdOf false x7_3 (ji82))) l0 (l0.length : Int) x101_3 x5_1 (x5_1.length : Int) ji82) else (none)) else (none)) else (none)) = some r := by first | (rw [hji82] at H; exact H) | (simp only [hji82] at H ⊢; exact H)
                         try clear hji71w
                         have hji82w : (IntKind.i64.wrap (x111_4 + 1)) = ji82 := (i64_w _).trans hji82
                         by_cases c83 : 0 ≤ (ji82)
                         ·rw [if_pos c83] at H
                          have c83b0 : decide (0 ≤ (ji82)) = true := decide_eq_true c83
                          clear c83
                          by_cases c84 : (ji82) < (x7_3.length : Int)
                          ·rw [if_pos c84] at H
                           have c84b0 : decide ((ji82) < (x7_3.length : Int)) = true := decide_eq_true c84
                           clear c84
                           by_cases c85 : (ji82) < (x12_4.length : Int)
                           ·rw [if_pos c85] at H
                            have c85b0 : decide ((ji82) < (x12_4.length : Int)) = true := decide_eq_true c85
                            clear c85
                            obtain ⟨y254, hy254⟩ : ∃ y_ : List Bool, y_ = (x12_4.set ((ji82) : Int).toNat (rdOf false x7_3 (ji82))) := ⟨_, rfl⟩
                            replace H : (impl_like.l3 k4 x5_1 x7_3 (rd l0 x101_3) y254 l0 (l0.length : Int) x101_3 x5_1 (x5_1.length : Int) ji82) = some r := by first | (rw [hy254]; with_reducible exact H) | (have H2_ := (Option.bind_some _ _).symm.trans H; rw [hy254]; with_reducible exact H2_) | (have H2_ := (Option.bind_some _ _).symm.trans H; with_reducible exact H2_) | with_reducible exact H | (rw [hy254]; exact H) | exact H
                            have Ny254 := Aside0.mk hy254
                            clear hy254
                            have H' := Aside0.mk H
                            clear H
                            have p249 : 0 ≤ (x111_4 : Int) := of_decide_eq_true (by first | (with_reducible assumption) | assumption)
                            have q249 : x111_4 < (x5_1.length : Int) := of_decide_eq_true (by first | (with_reducible assumption) | assumption)
                            obtain ⟨ad249, e249, hx249_0, hx249_1⟩ := at_T71 (Kd.R_reads' HO_109.out).2.2 x111_4 p249 q249
                            cases e249
                            replace p249 := eq_true p249
                            replace q249 := eq_true q249
                            go_wp2_with (first | ((with_reducible refine gate_dst (N := 14) rfl ?_); (try (refine gate_guard (by rfl) ?_; dsimp only)); refine box_event ?hg (N := 14) ?hd (cs := #[.int .i32 0, .int .u8 0]) (t := 71) ?hr ?_; (case hd => rfl); (case hg => rfl); (case hr => first | (go_simp; done) | (go_simp; rfl)); intro gb250 hg w87 hbox hb; have n0_ := Aside0.mk (Kd.R_below (Kd.R_elderB (by (with_reducible repeat (first | apply Kd.R_alloc | apply Kd.R_drewN | apply Kd.R_drew)); exact HO_5.out) gb250 (Nat.le_of_eq hg.symm)) hb); have n1_ := Aside0.mk (Kd.R_below (by (with_reducible repeat (first | apply Kd.R_alloc | apply Kd.R_drewN | apply Kd.R_drew)); exact HO_7.out) hb); have n2_ := Aside0.mk (Kd.R_below (by (with_reducible repeat (first | apply Kd.R_alloc | apply Kd.R_drewN | apply Kd.R_drew)); exact HO_12.out) hb); have n3_ := Aside0.mk (Kd.R_below (Kd.R_elderB (by (with_reducible repeat (first | apply Kd.R_alloc | apply Kd.R_drewN | apply Kd.R_drew)); exact HO_109.out) gb250 (Nat.le_of_eq hg.symm)) hb); have n4_ := Aside0.mk (below_step (by repeat (first | (with_reducible first | exact HB.out | apply below_alloc | apply pw_below_drewN | apply below_drew1) | exact HB.out)) hb); have n5_ := Aside0.mk (hbox); have n6_ := Aside0.mk ((by rw [hg]; exact (below_size (by repeat (first | (with_reducible first | exact HB.out | apply below_alloc | apply pw_below_drewN | apply below_drew1) | exact HB.out))) : w.heap.size ≤ gb250)); have n7_ := Aside0.mk ((by rw [hg]; exact (below_size (by repeat (first | (with_reducible first | exact HB.out | apply below_alloc | apply pw_below_drewN | apply below_drew1) | exact HB.out))) : w.heap.size ≤ gb250)); clear HO_5; clear HO_7; clear HO_12; clear HO_109; clear HB; have HO_5 := n0_; have HO_7 := n1_; have HO_12 := n2_; have HO_109 := n3_; have HB := n4_; have BK250 := n5_; have GW250 := n6_; have GE250 := n7_; clear n0_ n1_ n2_ n3_ n4_ n5_ n6_ n7_; clear hb hbox hg; have hcz88_0 : w87.cell? ⟨gb250, 0, none⟩ = some (.int .i32 0) := (blk_cell BK250.out 0).trans rfl; have hcz88_1 : w87.cell? ⟨gb250, 1, none⟩ = some (.int .u8 0) := (blk_cell BK250.out 1).trans rfl; have hfz88_0 := blk_frozen BK250.out 0; have hfz88_1 := blk_frozen BK250.out 1) | ((with_reducible refine gate_store (t := 71) (p := 14) rfl ?_); refine store_event (t := 71) (p := 14) (v := ?vo_w89) (w1 := ((w87.setCell ⟨gb250, 0, none⟩ (.int .i32 ((rd_T71 x5_1 x111_4).f0))).setCell ⟨gb250, 1, none⟩ (.int .u8 ((rd_T71 x5_1 x111_4).f1)))) ?hg ?ho ?hn ?hr ?_; (case ho => rfl); (case hg => rfl); (case hn => rfl); (case hr => first | (go_simp; done) | (go_simp; rfl)); intro w89 hw; have n0_ : Aside0 (Kd.R k71 71 w89 w.heap.size (fun k_ => k_ ≠ gb250) (.slice (some ad249) x5_1.length co26) x5_1) := ⟨(by rw [hw]; exact (by (with_reducible repeat (first | apply Kd.R_alloc | apply Kd.R_drewN | apply Kd.R_drew)); exact Kd.R_mono (Kd.R_far (p := ⟨gb250, 1, none⟩) (Kd.R_far (p := ⟨gb250, 0, none⟩) (Kd.R_mono HO_5.out (fun k_ hk => (⟨hk, hk.2⟩ : _ ∧ k_ ≠ gb250))) (fun _ hk => hk.2) (.int .i32 ((rd_T71 x5_1 x111_4).f0))) (fun _ hk => hk.2) (.int .u8 ((rd_T71 x5_1 x111_4).f1))) (fun _ hk => hk.1.2)))⟩; have n1_ : Aside0 (Kd.R Kd.bool 4 w89 w.heap.size (fun k_ => some k_ ≠ (v247 : Value).ownBlock) u7 x7_3) := ⟨(by rw [hw]; exact (by (with_reducible repeat (first | apply Kd.R_alloc | apply Kd.R_drewN | apply Kd.R_drew)); exact Kd.R_mono (Kd.R_far (p := ⟨gb250, 1, none⟩) (Kd.R_far (p := ⟨gb250, 0, none⟩) (Kd.R_types HO_7.out BK250.out (by decide)) (fun _ hk => hk.2) (.int .i32 ((rd_T71 x5_1 x111_4).f0))) (fun _ hk => hk.2) (.int .u8 ((rd_T71 x5_1 x111_4).f1))) (fun _ hk => hk.1)))⟩; have n2_ : Aside0 (Kd.R Kd.bool 4 w89 w.heap.size (fun k_ => some k_ ≠ (u7 : Value).ownBlock) v247 x12_4) := ⟨(by rw [hw]; exact (by (with_reducible repeat (first | apply Kd.R_alloc | apply Kd.R_drewN | apply Kd.R_drew)); exact Kd.R_mono (Kd.R_far (p := ⟨gb250, 1, none⟩) (Kd.R_far (p := ⟨gb250, 0, none⟩) (Kd.R_types HO_12.out BK250.out (by decide)) (fun _ hk => hk.2) (.int .i32 ((rd_T71 x5_1 x111_4).f0))) (fun _ hk => hk.2) (.int .u8 ((rd_T71 x5_1 x111_4).f1))) (fun _ hk => hk.1)))⟩; have n3_ : Aside0 (Kd.R k71 71 w89 w.heap.size (fun k_ => k_ ≠ gb250) (.slice (some ad249) x5_1.length co26) x5_1) := ⟨(by rw [hw]; exact (by (with_reducible repeat (first | apply Kd.R_alloc | apply Kd.R_drewN | apply Kd.R_drew)); exact Kd.R_mono (Kd.R_far (p := ⟨gb250, 1, none⟩) (Kd.R_far (p := ⟨gb250, 0, none⟩) (Kd.R_mono HO_109.out (fun k_ hk => (⟨hk, hk.2⟩ : _ ∧ k_ ≠ gb250))) (fun _ hk => hk.2) (.int .i32 ((rd_T71 x5_1 x111_4).f0))) (fun _ hk => hk.2) (.int .u8 ((rd_T71 x5_1 x111_4).f1))) (fun _ hk => hk.1.2)))⟩; have n4_ : Aside0 (w89.heap[gb250]? = some (.cells #[.int .i32 ((rd_T71 x5_1 x111_4).f0), .int .u8 ((rd_T71 x5_1 x111_4).f1)] 71 (0, 0))) := ⟨(by rw [hw]; exact (by (with_reducible repeat (first | refine blk_drewN ?_ _ | refine blk_drew ?_ | refine blk_alloc ?_ _)); refine blk_put (cs := #[.int .i32 ((rd_T71 x5_1 x111_4).f0), .int .u8 0]) ?_ 1 _ rfl; (with_reducible repeat (first | refine blk_drewN ?_ _ | refine blk_drew ?_ | refine blk_alloc ?_ _)); refine blk_put (cs := #[.int .i32 0, .int .u8 0]) ?_ 0 _ rfl; (with_reducible repeat (first | refine blk_drewN ?_ _ | refine blk_drew ?_ | refine blk_alloc ?_ _)); exact BK250.out))⟩; have n5_ : Aside0 (Below w.heap.size w w89) := ⟨(by rw [hw]; exact (by repeat (first | (with_reducible first | exact HB.out | apply below_alloc | apply pw_below_drewN | apply below_drew1 | refine below_set ?_ GE250.out) | exact HB.out)))⟩; clear hw; clear HO_5; clear HO_7; clear HO_12; clear HO_109; clear BK250; clear HB; have HO_5 := n0_; have HO_7 := n1_; have HO_12 := n2_; have HO_109 := n3_; have BK250 := n4_; have HB := n5_; clear n0_ n1_ n2_ n3_ n4_ n5_; have hcz90_0 : w89.cell? ⟨gb250, 0, none⟩ = some (.int .i32 ((rd_T71 x5_1 x111_4).f0)) := (blk_cell BK250.out 0).trans rfl; have hcz90_1 : w89.cell? ⟨gb250, 1, none⟩ = some (.int .u8 ((rd_T71 x5_1 x111_4).f1)) := (blk_cell BK250.out 1).trans rfl; have hfz90_0 := blk_frozen BK250.out 0; have hfz90_1 := blk_frozen BK250.out 1; obtain ⟨Ao91, co91, eo91⟩ := Kd.R_slice HO_12.out; subst eo91; have p251 : 0 ≤ (x111_4 : Int) := of_decide_eq_true (by first | (with_reducible assumption) | assumption); have q251 : x111_4 < (x12_4.length : Int) := of_decide_eq_true (by first | (with_reducible assumption) | assumption); obtain ⟨ad251, e251, hx251_0⟩ := Kd.at_bool (Kd.R_reads' HO_12.out).2.2 x111_4 p251 q251; (try rw [← Nbq69.out] at hx251_0); cases e251; replace p251 := eq_true p251; replace q251 := eq_true q251; obtain ⟨Ao92, co92, eo92⟩ := Kd.R_slice HO_7.out; subst eo92; have p253 : 0 ≤ ((ji82) : Int) := of_decide_eq_true (by first | (with_reducible assumption) | assumption); have q253 : (ji82) < (x7_3.length : Int) := of_decide_eq_true (by first | (with_reducible assumption) | assumption); obtain ⟨ad253, e253, hx253_0⟩ := Kd.at_bool (Kd.R_reads' HO_7.out).2.2 (ji82) p253 q253; (try rw [← Nbq69.out] at hx253_0); cases e253; replace p253 := eq_true p253; replace q253 := eq_true q253; have p86 : 0 ≤ ((ji82) : Int) := of_decide_eq_true (by first | (with_reducible assumption) | assumption); have q86 : ((ji82) : Int) < ((x12_4.length : Int) : Int) := of_decide_eq_true (by first | (with_reducible assumption) | assumption); obtain ⟨go86, co86, eo86, gb86, gl86, cl86, HG86⟩ := Kd.R_form HO_12.out (by omega); (first | cases eo86 | (injection eo86 with ea_ en_ ec_; (first | subst ea_ | (injection ea_ with ea_; subst ea_)); subst ec_; clear en_)); have GB86 := Aside0.mk gb86; have GG86 := Aside0.mk HG86; clear gb86 gl86 HG86; (first | simp only [add_plain] at hx251_0 | skip); obtain ⟨hx86_0, hf86_0⟩ := Kd.R_celln false HO_12.out ((ji82) : Int) p86 q86; replace p86 := eq_true p86; replace q86 := eq_true q86; obtain ⟨hy93_, hz93_⟩ := Kd.R_celln false HO_12.out ((ji82) : Int) (of_decide_eq_true (by first | (with_reducible assumption) | assumption)) (of_decide_eq_true (by first | (with_reducible assumption) | assumption)); have HP93 := Kd.R_putg HO_12.out ((ji82) : Int) (rdOf false x7_3 (ji82))) | ((with_reducible refine gate_store (t := 4) (p := 148) rfl ?_); refine store_event (t := 4) (p := 148) (v := ?vo_w94) (w1 := (w89.setCell ⟨go86, ((ji82) : Int).toNat, none⟩ (.bool (rdOf false x7_3 (ji82))))) ?hg ?ho ?hn ?hr ?_; (case ho => rfl); (case hg => rfl); (case hn => rfl); (case hr => first | (go_simp; done) | (go_simp; rfl)); intro w94 hw; have hg : w89.grownBy w94 (some go86) := (by rw [hw]; exact HP93.2); have hp_ : Kd.R Kd.bool 4 w94 w.heap.size (fun k_ => some k_ ≠ (.slice (some ad253) x7_3.length co92 : Value).ownBlock) (.slice (some ⟨go86, 0, none⟩) x12_4.length co91) y254 := (by rw [hw, Ny254.out]; exact HP93.1); clear HP93; have n0_ := Aside0.mk (Kd.R_over' (v := (.slice (some ⟨go86, 0, none⟩) x12_4.length co91)) (by (with_reducible repeat (first | apply Kd.R_alloc | apply Kd.R_drewN | apply Kd.R_drew)); exact HO_5.out) (Kd.R_typed HO_12.out) (by decide) hg); have n1_ := Aside0.mk (Kd.R_after (v := (.slice (some ⟨go86, 0, none⟩) x12_4.length co91)) (v1 := (.slice (some ⟨go86, 0, none⟩) x12_4.length co91)) (ok := (fun _ => True)) (by (with_reducible repeat (first | apply Kd.R_alloc | apply Kd.R_drewN | apply Kd.R_drew)); exact Kd.R_mono HO_7.out (fun _ hk => ⟨trivial, hk⟩)) hg (.inl rfl)); have n2_ := Aside0.mk (hp_); have n3_ := Aside0.mk (Kd.R_over' (v := (.slice (some ⟨go86, 0, none⟩) x12_4.length co91)) (by (with_reducible repeat (first | apply Kd.R_alloc | apply Kd.R_drewN | apply Kd.R_drew)); exact HO_109.out) (Kd.R_typed HO_12.out) (by decide) hg); have n4_ := Aside0.mk (blk_grown (g := gb250) (o := .cells #[.int .i32 ((rd_T71 x5_1 x111_4).f0), .int .u8 ((rd_T71 x5_1 x111_4).f1)] 71 (0, 0)) (by (with_reducible repeat (first | refine blk_drewN ?_ _ | refine blk_drew ?_ | refine blk_alloc ?_ _)); exact BK250.out) hg (Kd.R_ne HO_12.out BK250.out (by decide))); have n5_ := Aside0.mk ((by rw [hw]; exact below_set (HB.out) GB86.out : Below w.heap.size w w94)); clear HO_5; clear HO_7; clear HO_12; clear HO_109; clear BK250; clear HB; have HO_5 := n0_; have HO_7 := n1_; have HO_12 := n2_; have HO_109 := n3_; have BK250 := n4_; have HB := n5_; clear n0_ n1_ n2_ n3_ n4_ n5_; clear hg hw hp_))
                            go_roundg k4
                            case measure => have := HK1.out; have := HK2.out; have := HK3.out; have := HK4.out; omega
                            case rel => exact ⟨(y254), (ji82), (by first | rfl | (simp; done) | (simp only [← hji82] <;> (first | rfl | simp)) | (simp [*]; done)), H', ⟨by have := HK1.out; have := HK2.out; have := HK3.out; have := HK4.out; omega⟩, ⟨by (try simp only [hl7_2]); (with_reducible repeat (first | apply Kd.R_alloc | apply Kd.R_drewN | apply Kd.R_drew)); exact Kd.R_mono HO_5.out (fun _ hk => trivial)⟩, ⟨by (try simp only [hl7_2]); (with_reducible repeat (first | apply Kd.R_alloc | apply Kd.R_drewN | apply Kd.R_drew)); exact Kd.R_mono HO_7.out (fun _ hk => hk.2)⟩, ⟨by (try simp only [hl7_2]); (with_reducible repeat (first | apply Kd.R_alloc | apply Kd.R_drewN | apply Kd.R_drew)); exact HO_12.out⟩, ⟨by (try simp only [hl7_2]); (with_reducible repeat (first | apply Kd.R_alloc | apply Kd.R_drewN | apply Kd.R_drew)); exact Kd.R_mono HO_109.out (fun _ hk => trivial)⟩, ⟨by repeat (first | (with_reducible first | exact HB.out | apply below_alloc | apply pw_below_drewN | apply below_drew1 | refine below_set ?_ GE250.out) | exact HB.out)⟩⟩
                           ·rw [if_neg c85] at H
                            exact absurd H (by simp)
                          ·rw [if_neg c84] at H
                           exact absurd H (by simp)
                         ·rw [if_neg c83] at H
                          exact absurd H (by simp)
                       ·rw [if_neg c68] at H
                        exact absurd H (by simp)
                      ·rw [if_neg c67] at H
                       have c67b0 : (((rd_T71 x5_1 x111_4).f1) == 37) = false := beq_eq_false_iff_ne.mpr c67
                       have c67b1 : (((rd_T71 x5_1 x111_4).f1) != 37) = true := bne_iff_ne.mpr c67
                       by_cases c95 : ((rd_T71 x5_1 x111_4).f1) = 95
                       ·rw [if_pos c95] at H
                        have c95b0 : (((rd_T71 x5_1 x111_4).f1) == 95) = true := beq_iff_eq.mpr c95
                        have c95b1 : (((rd_T71 x5_1 x111_4).f1) != 95) = false := bne_eq_false_iff_eq.mpr c95
                        clear c95
                        by_cases c96 : x111_4 < (x7_3.length : Int)
                        ·rw [if_pos c96] at H
                         have c96b0 : decide (x111_4 < (x7_3.length : Int)) = true := decide_eq_true c96
                         clear c96
                         obtain ⟨ji97, hji97⟩ : ∃ j_ : Int, (wrap64 (x111_4 + 1)) = j_ := ⟨_, rfl⟩
                         replace H : (if 0 ≤ (ji97) then (if (ji97) < (x12_4.length : Int) then (impl_like.l3 k4 x5_1 x7_3 (rd l0 x101_3) (x12_4.set ((ji97) : Int).toNat (rdOf false x7_3 x111_4)) l0 (l0.length : Int) x101_3 x5_1 (x5_1.length : Int) ji97) else (none)) else (none)) = some r := by first | (rw [hji97] at H; exact H) | (simp only [hji97] at H ⊢; exact H)
                         try clear hji71w
                         try clear hji82w
                         have hji97w : (IntKind.i64.wrap (x111_4 + 1)) = ji97 := (i64_w _).trans hji97
                         by_cases c98 : 0 ≤ (ji97)
                         ·rw [if_pos c98] at H
                          have c98b0 : decide (0 ≤ (ji97)) = true := decide_eq_true c98
                          clear c98
                          by_cases c99 : (ji97) < (x12_4.length : Int)
                          ·rw [if_pos c99] at H
                           have c99b0 : decide ((ji97) < (x12_4.length : Int)) = true := decide_eq_true c99
                           clear c99
                           obtain ⟨y256, hy256⟩ : ∃ y_ : List Bool, y_ = (x12_4.set ((ji97) : Int).toNat (rdOf false x7_3 x111_4)) := ⟨_, rfl⟩
                           replace H : (impl_like.l3 k4 x5_1 x7_3 (rd l0 x101_3) y256 l0 (l0.length : Int) x101_3 x5_1 (x5_1.length : Int) ji97) = some r := by first | (rw [hy256]; with_reducible exact H) | (have H2_ := (Option.bind_some _ _).symm.trans H; rw [hy256]; with_reducible exact H2_) | (have H2_ := (Option.bind_some _ _).symm.trans H; with_reducible exact H2_) | with_reducible exact H | (rw [hy256]; exact H) | exact H
                           have Ny256 := Aside0.mk hy256
                           clear hy256
                           have H' := Aside0.mk H
                           clear H
                           have p249 : 0 ≤ (x111_4 : Int) := of_decide_eq_true (by first | (with_reducible assumption) | assumption)
                           have q249 : x111_4 < (x5_1.length : Int) := of_decide_eq_true (by first | (with_reducible assumption) | assumption)
                           obtain ⟨ad249, e249, hx249_0, hx249_1⟩ := at_T71 (Kd.R_reads' HO_109.out).2.2 x111_4 p249 q249
                           cases e249
                           replace p249 := eq_true p249
                           replace q249 := eq_true q249
                           go_wp2_with (first | ((with_reducible refine gate_dst (N := 14) rfl ?_); (try (refine gate_guard (by rfl) ?_; dsimp only)); refine box_event ?hg (N := 14) ?hd (cs := #[.int .i32 0, .int .u8 0]) (t := 71) ?hr ?_; (case hd => rfl); (case hg => rfl); (case hr => first | (go_simp; done) | (go_simp; rfl)); intro gb250 hg w101 hbox hb; have n0_ := Aside0.mk (Kd.R_below (Kd.R_elderB (by (with_reducible repeat (first | apply Kd.R_alloc | apply Kd.R_drewN | apply Kd.R_drew)); exact HO_5.out) gb250 (Nat.le_of_eq hg.symm)) hb); have n1_ := Aside0.mk (Kd.R_below (by (with_reducible repeat (first | apply Kd.R_alloc | apply Kd.R_drewN | apply Kd.R_drew)); exact HO_7.out) hb); have n2_ := Aside0.mk (Kd.R_below (by (with_reducible repeat (first | apply Kd.R_alloc | apply Kd.R_drewN | apply Kd.R_drew)); exact HO_12.out) hb); have n3_ := Aside0.mk (Kd.R_below (Kd.R_elderB (by (with_reducible repeat (first | apply Kd.R_alloc | apply Kd.R_drewN | apply Kd.R_drew)); exact HO_109.out) gb250 (Nat.le_of_eq hg.symm)) hb); have n4_ := Aside0.mk (below_step (by repeat (first | (with_reducible first | exact HB.out | apply below_alloc | apply pw_below_drewN | apply below_drew1) | exact HB.out)) hb); have n5_ := Aside0.mk (hbox); have n6_ := Aside0.mk ((by rw [hg]; exact (below_size (by repeat (first | (with_reducible first | exact HB.out | apply below_alloc | apply pw_below_drewN | apply below_drew1) | exact HB.out))) : w.heap.size ≤ gb250)); have n7_ := Aside0.mk ((by rw [hg]; exact (below_size (by repeat (first | (with_reducible first | exact HB.out | apply below_alloc | apply pw_below_drewN | apply below_drew1) | exact HB.out))) : w.heap.size ≤ gb250)); clear HO_5; clear HO_7; clear HO_12; clear HO_109; clear HB; have HO_5 := n0_; have HO_7 := n1_; have HO_12 := n2_; have HO_109 := n3_; have HB := n4_; have BK250 := n5_; have GW250 := n6_; have GE250 := n7_; clear n0_ n1_ n2_ n3_ n4_ n5_ n6_ n7_; clear hb hbox hg; have hcz102_0 : w101.cell? ⟨gb250, 0, none⟩ = some (.int .i32 0) := (blk_cell BK250.out 0).trans rfl; have hcz102_1 : w101.cell? ⟨gb250, 1, none⟩ = some (.int .u8 0) := (blk_cell BK250.out 1).trans rfl; have hfz102_0 := blk_frozen BK250.out 0; have hfz102_1 := blk_frozen BK250.out 1) | ((with_reducible refine gate_store (t := 71) (p := 14) rfl ?_); refine store_event (t := 71) (p := 14) (v := ?vo_w103) (w1 := ((w101.setCell ⟨gb250, 0, none⟩ (.int .i32 ((rd_T71 x5_1 x111_4).f0))).setCell ⟨gb250, 1, none⟩ (.int .u8 ((rd_T71 x5_1 x111_4).f1)))) ?hg ?ho ?hn ?hr ?_; (case ho => rfl); (case hg => rfl); (case hn => rfl); (case hr => first | (go_simp; done) | (go_simp; rfl)); intro w103 hw; have n0_ : Aside0 (Kd.R k71 71 w103 w.heap.size (fun k_ => k_ ≠ gb250) (.slice (some ad249) x5_1.length co26) x5_1) := ⟨(by rw [hw]; exact (by (with_reducible repeat (first | apply Kd.R_alloc | apply Kd.R_drewN | apply Kd.R_drew)); exact Kd.R_mono (Kd.R_far (p := ⟨gb250, 1, none⟩) (Kd.R_far (p := ⟨gb250, 0, none⟩) (Kd.R_mono HO_5.out (fun k_ hk => (⟨hk, hk.2⟩ : _ ∧ k_ ≠ gb250))) (fun _ hk => hk.2) (.int .i32 ((rd_T71 x5_1 x111_4).f0))) (fun _ hk => hk.2) (.int .u8 ((rd_T71 x5_1 x111_4).f1))) (fun _ hk => hk.1.2)))⟩; have n1_ : Aside0 (Kd.R Kd.bool 4 w103 w.heap.size (fun k_ => some k_ ≠ (v247 : Value).ownBlock) u7 x7_3) := ⟨(by rw [hw]; exact (by (with_reducible repeat (first | apply Kd.R_alloc | apply Kd.R_drewN | apply Kd.R_drew)); exact Kd.R_mono (Kd.R_far (p := ⟨gb250, 1, none⟩) (Kd.R_far (p := ⟨gb250, 0, none⟩) (Kd.R_types HO_7.out BK250.out (by decide)) (fun _ hk => hk.2) (.int .i32 ((rd_T71 x5_1 x111_4).f0))) (fun _ hk => hk.2) (.int .u8 ((rd_T71 x5_1 x111_4).f1))) (fun _ hk => hk.1)))⟩; have n2_ : Aside0 (Kd.R Kd.bool 4 w103 w.heap.size (fun k_ => some k_ ≠ (u7 : Value).ownBlock) v247 x12_4) := ⟨(by rw [hw]; exact (by (with_reducible repeat (first | apply Kd.R_alloc | apply Kd.R_drewN | apply Kd.R_drew)); exact Kd.R_mono (Kd.R_far (p := ⟨gb250, 1, none⟩) (Kd.R_far (p := ⟨gb250, 0, none⟩) (Kd.R_types HO_12.out BK250.out (by decide)) (fun _ hk => hk.2) (.int .i32 ((rd_T71 x5_1 x111_4).f0))) (fun _ hk => hk.2) (.int .u8 ((rd_T71 x5_1 x111_4).f1))) (fun _ hk => hk.1)))⟩; have n3_ : Aside0 (Kd.R k71 71 w103 w.heap.size (fun k_ => k_ ≠ gb250) (.slice (some ad249) x5_1.length co26) x5_1) := ⟨(by rw [hw]; exact (by (with_reducible repeat (first | apply Kd.R_alloc | apply Kd.R_drewN | apply Kd.R_drew)); exact Kd.R_mono (Kd.R_far (p := ⟨gb250, 1, none⟩) (Kd.R_far (p := ⟨gb250, 0, none⟩) (Kd.R_mono HO_109.out (fun k_ hk => (⟨hk, hk.2⟩ : _ ∧ k_ ≠ gb250))) (fun _ hk => hk.2) (.int .i32 ((rd_T71 x5_1 x111_4).f0))) (fun _ hk => hk.2) (.int .u8 ((rd_T71 x5_1 x111_4).f1))) (fun _ hk => hk.1.2)))⟩; have n4_ : Aside0 (w103.heap[gb250]? = some (.cells #[.int .i32 ((rd_T71 x5_1 x111_4).f0), .int .u8 ((rd_T71 x5_1 x111_4).f1)] 71 (0, 0))) := ⟨(by rw [hw]; exact (by (with_reducible repeat (first | refine blk_drewN ?_ _ | refine blk_drew ?_ | refine blk_alloc ?_ _)); refine blk_put (cs := #[.int .i32 ((rd_T71 x5_1 x111_4).f0), .int .u8 0]) ?_ 1 _ rfl; (with_reducible repeat (first | refine blk_drewN ?_ _ | refine blk_drew ?_ | refine blk_alloc ?_ _)); refine blk_put (cs := #[.int .i32 0, .int .u8 0]) ?_ 0 _ rfl; (with_reducible repeat (first | refine blk_drewN ?_ _ | refine blk_drew ?_ | refine blk_alloc ?_ _)); exact BK250.out))⟩; have n5_ : Aside0 (Below w.heap.size w w103) := ⟨(by rw [hw]; exact (by repeat (first | (with_reducible first | exact HB.out | apply below_alloc | apply pw_below_drewN | apply below_drew1 | refine below_set ?_ GE250.out) | exact HB.out)))⟩; clear hw; clear HO_5; clear HO_7; clear HO_12; clear HO_109; clear BK250; clear HB; have HO_5 := n0_; have HO_7 := n1_; have HO_12 := n2_; have HO_109 := n3_; have BK250 := n4_; have HB := n5_; clear n0_ n1_ n2_ n3_ n4_ n5_; have hcz104_0 : w103.cell? ⟨gb250, 0, none⟩ = some (.int .i32 ((rd_T71 x5_1 x111_4).f0)) := (blk_cell BK250.out 0).trans rfl; have hcz104_1 : w103.cell? ⟨gb250, 1, none⟩ = some (.int .u8 ((rd_T71 x5_1 x111_4).f1)) := (blk_cell BK250.out 1).trans rfl; have hfz104_0 := blk_frozen BK250.out 0; have hfz104_1 := blk_frozen BK250.out 1; obtain ⟨Ao105, co105, eo105⟩ := Kd.R_slice HO_7.out; subst eo105; have p255 : 0 ≤ (x111_4 : Int) := of_decide_eq_true (by first | (with_reducible assumption) | assumption); have q255 : x111_4 < (x7_3.length : Int) := of_decide_eq_true (by first | (with_reducible assumption) | assumption); obtain ⟨ad255, e255, hx255_0⟩ := Kd.at_bool (Kd.R_reads' HO_7.out).2.2 x111_4 p255 q255; cases e255; replace p255 := eq_true p255; replace q255 := eq_true q255; have p100 : 0 ≤ ((ji97) : Int) := of_decide_eq_true (by first | (with_reducible assumption) | assumption); have q100 : ((ji97) : Int) < ((x12_4.length : Int) : Int) := of_decide_eq_true (by first | (with_reducible assumption) | assumption); obtain ⟨go100, co100, eo100, gb100, gl100, cl100, HG100⟩ := Kd.R_form HO_12.out (by omega); (first | cases eo100 | (injection eo100 with ea_ en_ ec_; (first | subst ea_ | (injection ea_ with ea_; subst ea_)); subst ec_; clear en_)); have GB100 := Aside0.mk gb100; have GG100 := Aside0.mk HG100; clear gb100 gl100 HG100; obtain ⟨hx100_0, hf100_0⟩ := Kd.R_celln false HO_12.out ((ji97) : Int) p100 q100; replace p100 := eq_true p100; replace q100 := eq_true q100; obtain ⟨hy106_, hz106_⟩ := Kd.R_celln false HO_12.out ((ji97) : Int) (of_decide_eq_true (by first | (with_reducible assumption) | assumption)) (of_decide_eq_true (by first | (with_reducible assumption) | assumption)); have HP106 := Kd.R_putg HO_12.out ((ji97) : Int) (rdOf false x7_3 x111_4)) | ((with_reducible refine gate_store (t := 4) (p := 158) rfl ?_); refine store_event (t := 4) (p := 158) (v := ?vo_w107) (w1 := (w103.setCell ⟨go100, ((ji97) : Int).toNat, none⟩ (.bool (rdOf false x7_3 x111_4)))) ?hg ?ho ?hn ?hr ?_; (case ho => rfl); (case hg => rfl); (case hn => rfl); (case hr => first | (go_simp; done) | (go_simp; rfl)); intro w107 hw; have hg : w103.grownBy w107 (some go100) := (by rw [hw]; exact HP106.2); have hp_ : Kd.R Kd.bool 4 w107 w.heap.size (fun k_ => some k_ ≠ (.slice (some ad255) x7_3.length co105 : Value).ownBlock) (.slice (some ⟨go100, 0, none⟩) x12_4.length co100) y256 := (by rw [hw, Ny256.out]; exact HP106.1); clear HP106; have n0_ := Aside0.mk (Kd.R_over' (v := (.slice (some ⟨go100, 0, none⟩) x12_4.length co100)) (by (with_reducible repeat (first | apply Kd.R_alloc | apply Kd.R_drewN | apply Kd.R_drew)); exact HO_5.out) (Kd.R_typed HO_12.out) (by decide) hg); have n1_ := Aside0.mk (Kd.R_after (v := (.slice (some ⟨go100, 0, none⟩) x12_4.length co100)) (v1 := (.slice (some ⟨go100, 0, none⟩) x12_4.length co100)) (ok := (fun _ => True)) (by (with_reducible repeat (first | apply Kd.R_alloc | apply Kd.R_drewN | apply Kd.R_drew)); exact Kd.R_mono HO_7.out (fun _ hk => ⟨trivial, hk⟩)) hg (.inl rfl)); have n2_ := Aside0.mk (hp_); have n3_ := Aside0.mk (Kd.R_over' (v := (.slice (some ⟨go100, 0, none⟩) x12_4.length co100)) (by (with_reducible repeat (first | apply Kd.R_alloc | apply Kd.R_drewN | apply Kd.R_drew)); exact HO_109.out) (Kd.R_typed HO_12.out) (by decide) hg); have n4_ := Aside0.mk (blk_grown (g := gb250) (o := .cells #[.int .i32 ((rd_T71 x5_1 x111_4).f0), .int .u8 ((rd_T71 x5_1 x111_4).f1)] 71 (0, 0)) (by (with_reducible repeat (first | refine blk_drewN ?_ _ | refine blk_drew ?_ | refine blk_alloc ?_ _)); exact BK250.out) hg (Kd.R_ne HO_12.out BK250.out (by decide))); have n5_ := Aside0.mk ((by rw [hw]; exact below_set (HB.out) GB100.out : Below w.heap.size w w107)); clear HO_5; clear HO_7; clear HO_12; clear HO_109; clear BK250; clear HB; have HO_5 := n0_; have HO_7 := n1_; have HO_12 := n2_; have HO_109 := n3_; have BK250 := n4_; have HB := n5_; clear n0_ n1_ n2_ n3_ n4_ n5_; clear hg hw hp_))
                           go_roundg k4
                           case measure => have := HK1.out; have := HK2.out; have := HK3.out; have := HK4.out; omega
                           case rel => exact ⟨(y256), (ji97), (by first | rfl | (simp; done) | (simp only [← hji97] <;> (first | rfl | simp)) | (simp [*]; done)), H', ⟨by have := HK1.out; have := HK2.out; have := HK3.out; have := HK4.out; omega⟩, ⟨by (try simp only [hl7_2]); (with_reducible repeat (first | apply Kd.R_alloc | apply Kd.R_drewN | apply Kd.R_drew)); exact Kd.R_mono HO_5.out (fun _ hk => trivial)⟩, ⟨by (try simp only [hl7_2]); (with_reducible repeat (first | apply Kd.R_alloc | apply Kd.R_drewN | apply Kd.R_drew)); exact Kd.R_mono HO_7.out (fun _ hk => hk.2)⟩, ⟨by (try simp only [hl7_2]); (with_reducible repeat (first | apply Kd.R_alloc | apply Kd.R_drewN | apply Kd.R_drew)); exact HO_12.out⟩, ⟨by (try simp only [hl7_2]); (with_reducible repeat (first | apply Kd.R_alloc | apply Kd.R_drewN | apply Kd.R_drew)); exact Kd.R_mono HO_109.out (fun _ hk => trivial)⟩, ⟨by repeat (first | (with_reducible first | exact HB.out | apply below_alloc | apply pw_below_drewN | apply below_drew1 | refine below_set ?_ GE250.out) | exact HB.out)⟩⟩
                          ·rw [if_neg c99] at H
                           exact absurd H (by simp)
                         ·rw [if_neg c98] at H
                          exact absurd H (by simp)
                        ·rw [if_neg c96] at H
                         exact absurd H (by simp)
                       ·rw [if_neg c95] at H
                        have c95b0 : (((rd_T71 x5_1 x111_4).f1) == 95) = false := beq_eq_false_iff_ne.mpr c95
                        have c95b1 : (((rd_T71 x5_1 x111_4).f1) != 95) = true := bne_iff_ne.mpr c95
                        by_cases c108 : x111_4 < (x7_3.length : Int)
                        ·rw [if_pos c108] at H
                         have c108b0 : decide (x111_4 < (x7_3.length : Int)) = true := decide_eq_true c108
                         clear c108
                         obtain ⟨bq109, hbq109⟩ : ∃ b_ : Bool, b_ = (rdOf false x7_3 x111_4) := ⟨_, rfl⟩
                         replace H : (if bq109 = true then (if 0 ≤ (wrap64 (x111_4 + 1)) then (if (wrap64 (x111_4 + 1)) < (x12_4.length : Int) then (impl_like.l3 k4 x5_1 x7_3 (rd l0 x101_3) (x12_4.set ((wrap64 (x111_4 + 1)) : Int).toNat (((rd_T71 x5_1 x111_4).f0) == (rd l0 x101_3))) l0 (l0.length : Int) x101_3 x5_1 (x5_1.length : Int) (wrap64 (x111_4 + 1))) else (none)) else (none)) else (if 0 ≤ (wrap64 (x111_4 + 1)) then (if (wrap64 (x111_4 + 1)) < (x12_4.length : Int) then (impl_like.l3 k4 x5_1 x7_3 (rd l0 x101_3) (x12_4.set ((wrap64 (x111_4 + 1)) : Int).toNat false) l0 (l0.length : Int) x101_3 x5_1 (x5_1.length : Int) (wrap64 (x111_4 + 1))) else (none)) else (none))) = some r := by rw [← hbq109] at H; exact H
                         have Nbq109 := Aside0.mk hbq109
                         clear hbq109
                         by_cases c110 : bq109 = true
                         ·subst c110
                          have H1 : (if 0 ≤ (wrap64 (x111_4 + 1)) then (if (wrap64 (x111_4 + 1)) < (x12_4.length : Int) then (impl_like.l3 k4 x5_1 x7_3 (rd l0 x101_3) (x12_4.set ((wrap64 (x111_4 + 1)) : Int).toNat (((rd_T71 x5_1 x111_4).f0) == (rd l0 x101_3))) l0 (l0.length : Int) x101_3 x5_1 (x5_1.length : Int) (wrap64 (x111_4 + 1))) else (none)) else (none)) = some r := by rw [if_pos rfl] at H; exact H
                          clear H
                          have H := H1
                          clear H1
                          obtain ⟨ji111, hji111⟩ : ∃ j_ : Int, (wrap64 (x111_4 + 1)) = j_ := ⟨_, rfl⟩
                          replace H : (if 0 ≤ (ji111) then (if (ji111) < (x12_4.length : Int) then (impl_like.l3 k4 x5_1 x7_3 (rd l0 x101_3) (x12_4.set ((ji111) : Int).toNat (((rd_T71 x5_1 x111_4).f0) == (rd l0 x101_3))) l0 (l0.length : Int) x101_3 x5_1 (x5_1.length : Int) ji111) else (none)) else (none)) = some r := by first | (rw [hji111] at H; exact H) | (simp only [hji111] at H ⊢; exact H)
                          try clear hji71w
                          try clear hji82w
                          try clear hji97w
                          have hji111w : (IntKind.i64.wrap (x111_4 + 1)) = ji111 := (i64_w _).trans hji111
                          by_cases c112 : 0 ≤ (ji111)
                          ·rw [if_pos c112] at H
                           have c112b0 : decide (0 ≤ (ji111)) = true := decide_eq_true c112
                           clear c112
                           by_cases c113 : (ji111) < (x12_4.length : Int)
                           ·rw [if_pos c113] at H
                            have c113b0 : decide ((ji111) < (x12_4.length : Int)) = true := decide_eq_true c113
                            clear c113
                            obtain ⟨y258, hy258⟩ : ∃ y_ : List Bool, y_ = (x12_4.set ((ji111) : Int).toNat (((rd_T71 x5_1 x111_4).f0) == (rd l0 x101_3))) := ⟨_, rfl⟩
                            replace H : (impl_like.l3 k4 x5_1 x7_3 (rd l0 x101_3) y258 l0 (l0.length : Int) x101_3 x5_1 (x5_1.length : Int) ji111) = some r := by first | (rw [hy258]; with_reducible exact H) | (have H2_ := (Option.bind_some _ _).symm.trans H; rw [hy258]; with_reducible exact H2_) | (have H2_ := (Option.bind_some _ _).symm.trans H; with_reducible exact H2_) | with_reducible exact H | (rw [hy258]; exact H) | exact H
                            have Ny258 := Aside0.mk hy258
                            clear hy258
                            have H' := Aside0.mk H
                            clear H
                            have p249 : 0 ≤ (x111_4 : Int) := of_decide_eq_true (by first | (with_reducible assumption) | assumption)
                            have q249 : x111_4 < (x5_1.length : Int) := of_decide_eq_true (by first | (with_reducible assumption) | assumption)
                            obtain ⟨ad249, e249, hx249_0, hx249_1⟩ := at_T71 (Kd.R_reads' HO_109.out).2.2 x111_4 p249 q249
                            cases e249
                            replace p249 := eq_true p249
                            replace q249 := eq_true q249
                            go_wp2_with (first | ((with_reducible refine gate_dst (N := 14) rfl ?_); (try (refine gate_guard (by rfl) ?_; dsimp only)); refine box_event ?hg (N := 14) ?hd (cs := #[.int .i32 0, .int .u8 0]) (t := 71) ?hr ?_; (case hd => rfl); (case hg => rfl); (case hr => first | (go_simp; done) | (go_simp; rfl)); intro gb250 hg w115 hbox hb; have n0_ := Aside0.mk (Kd.R_below (Kd.R_elderB (by (with_reducible repeat (first | apply Kd.R_alloc | apply Kd.R_drewN | apply Kd.R_drew)); exact HO_5.out) gb250 (Nat.le_of_eq hg.symm)) hb); have n1_ := Aside0.mk (Kd.R_below (by (with_reducible repeat (first | apply Kd.R_alloc | apply Kd.R_drewN | apply Kd.R_drew)); exact HO_7.out) hb); have n2_ := Aside0.mk (Kd.R_below (by (with_reducible repeat (first | apply Kd.R_alloc | apply Kd.R_drewN | apply Kd.R_drew)); exact HO_12.out) hb); have n3_ := Aside0.mk (Kd.R_below (Kd.R_elderB (by (with_reducible repeat (first | apply Kd.R_alloc | apply Kd.R_drewN | apply Kd.R_drew)); exact HO_109.out) gb250 (Nat.le_of_eq hg.symm)) hb); have n4_ := Aside0.mk (below_step (by repeat (first | (with_reducible first | exact HB.out | apply below_alloc | apply pw_below_drewN | apply below_drew1) | exact HB.out)) hb); have n5_ := Aside0.mk (hbox); have n6_ := Aside0.mk ((by rw [hg]; exact (below_size (by repeat (first | (with_reducible first | exact HB.out | apply below_alloc | apply pw_below_drewN | apply below_drew1) | exact HB.out))) : w.heap.size ≤ gb250)); have n7_ := Aside0.mk ((by rw [hg]; exact (below_size (by repeat (first | (with_reducible first | exact HB.out | apply below_alloc | apply pw_below_drewN | apply below_drew1) | exact HB.out))) : w.heap.size ≤ gb250)); clear HO_5; clear HO_7; clear HO_12; clear HO_109; clear HB; have HO_5 := n0_; have HO_7 := n1_; have HO_12 := n2_; have HO_109 := n3_; have HB := n4_; have BK250 := n5_; have GW250 := n6_; have GE250 := n7_; clear n0_ n1_ n2_ n3_ n4_ n5_ n6_ n7_; clear hb hbox hg; have hcz116_0 : w115.cell? ⟨gb250, 0, none⟩ = some (.int .i32 0) := (blk_cell BK250.out 0).trans rfl; have hcz116_1 : w115.cell? ⟨gb250, 1, none⟩ = some (.int .u8 0) := (blk_cell BK250.out 1).trans rfl; have hfz116_0 := blk_frozen BK250.out 0; have hfz116_1 := blk_frozen BK250.out 1) | ((with_reducible refine gate_store (t := 71) (p := 14) rfl ?_); refine store_event (t := 71) (p := 14) (v := ?vo_w117) (w1 := ((w115.setCell ⟨gb250, 0, none⟩ (.int .i32 ((rd_T71 x5_1 x111_4).f0))).setCell ⟨gb250, 1, none⟩ (.int .u8 ((rd_T71 x5_1 x111_4).f1)))) ?hg ?ho ?hn ?hr ?_; (case ho => rfl); (case hg => rfl); (case hn => rfl); (case hr => first | (go_simp; done) | (go_simp; rfl)); intro w117 hw; have n0_ : Aside0 (Kd.R k71 71 w117 w.heap.size (fun k_ => k_ ≠ gb250) (.slice (some ad249) x5_1.length co26) x5_1) := ⟨(by rw [hw]; exact (by (with_reducible repeat (first | apply Kd.R_alloc | apply Kd.R_drewN | apply Kd.R_drew)); exact Kd.R_mono (Kd.R_far (p := ⟨gb250, 1, none⟩) (Kd.R_far (p := ⟨gb250, 0, none⟩) (Kd.R_mono HO_5.out (fun k_ hk => (⟨hk, hk.2⟩ : _ ∧ k_ ≠ gb250))) (fun _ hk => hk.2) (.int .i32 ((rd_T71 x5_1 x111_4).f0))) (fun _ hk => hk.2) (.int .u8 ((rd_T71 x5_1 x111_4).f1))) (fun _ hk => hk.1.2)))⟩; have n1_ : Aside0 (Kd.R Kd.bool 4 w117 w.heap.size (fun k_ => some k_ ≠ (v247 : Value).ownBlock) u7 x7_3) := ⟨(by rw [hw]; exact (by (with_reducible repeat (first | apply Kd.R_alloc | apply Kd.R_drewN | apply Kd.R_drew)); exact Kd.R_mono (Kd.R_far (p := ⟨gb250, 1, none⟩) (Kd.R_far (p := ⟨gb250, 0, none⟩) (Kd.R_types HO_7.out BK250.out (by decide)) (fun _ hk => hk.2) (.int .i32 ((rd_T71 x5_1 x111_4).f0))) (fun _ hk => hk.2) (.int .u8 ((rd_T71 x5_1 x111_4).f1))) (fun _ hk => hk.1)))⟩; have n2_ : Aside0 (Kd.R Kd.bool 4 w117 w.heap.size (fun k_ => some k_ ≠ (u7 : Value).ownBlock) v247 x12_4) := ⟨(by rw [hw]; exact (by (with_reducible repeat (first | apply Kd.R_alloc | apply Kd.R_drewN | apply Kd.R_drew)); exact Kd.R_mono (Kd.R_far (p := ⟨gb250, 1, none⟩) (Kd.R_far (p := ⟨gb250, 0, none⟩) (Kd.R_types HO_12.out BK250.out (by decide)) (fun _ hk => hk.2) (.int .i32 ((rd_T71 x5_1 x111_4).f0))) (fun _ hk => hk.2) (.int .u8 ((rd_T71 x5_1 x111_4).f1))) (fun _ hk => hk.1)))⟩; have n3_ : Aside0 (Kd.R k71 71 w117 w.heap.size (fun k_ => k_ ≠ gb250) (.slice (some ad249) x5_1.length co26) x5_1) := ⟨(by rw [hw]; exact (by (with_reducible repeat (first | apply Kd.R_alloc | apply Kd.R_drewN | apply Kd.R_drew)); exact Kd.R_mono (Kd.R_far (p := ⟨gb250, 1, none⟩) (Kd.R_far (p := ⟨gb250, 0, none⟩) (Kd.R_mono HO_109.out (fun k_ hk => (⟨hk, hk.2⟩ : _ ∧ k_ ≠ gb250))) (fun _ hk => hk.2) (.int .i32 ((rd_T71 x5_1 x111_4).f0))) (fun _ hk => hk.2) (.int .u8 ((rd_T71 x5_1 x111_4).f1))) (fun _ hk => hk.1.2)))⟩; have n4_ : Aside0 (w117.heap[gb250]? = some (.cells #[.int .i32 ((rd_T71 x5_1 x111_4).f0), .int .u8 ((rd_T71 x5_1 x111_4).f1)] 71 (0, 0))) := ⟨(by rw [hw]; exact (by (with_reducible repeat (first | refine blk_drewN ?_ _ | refine blk_drew ?_ | refine blk_alloc ?_ _)); refine blk_put (cs := #[.int .i32 ((rd_T71 x5_1 x111_4).f0), .int .u8 0]) ?_ 1 _ rfl; (with_reducible repeat (first | refine blk_drewN ?_ _ | refine blk_drew ?_ | refine blk_alloc ?_ _)); refine blk_put (cs := #[.int .i32 0, .int .u8 0]) ?_ 0 _ rfl; (with_reducible repeat (first | refine blk_drewN ?_ _ | refine blk_drew ?_ | refine blk_alloc ?_ _)); exact BK250.out))⟩; have n5_ : Aside0 (Below w.heap.size w w117) := ⟨(by rw [hw]; exact (by repeat (first | (with_reducible first | exact HB.out | apply below_alloc | apply pw_below_drewN | apply below_drew1 | refine below_set ?_ GE250.out) | exact HB.out)))⟩; clear hw; clear HO_5; clear HO_7; clear HO_12; clear HO_109; clear BK250; clear HB; have HO_5 := n0_; have HO_7 := n1_; have HO_12 := n2_; have HO_109 := n3_; have BK250 := n4_; have HB := n5_; clear n0_ n1_ n2_ n3_ n4_ n5_; have hcz118_0 : w117.cell? ⟨gb250, 0, none⟩ = some (.int .i32 ((rd_T71 x5_1 x111_4).f0)) := (blk_cell BK250.out 0).trans rfl; have hcz118_1 : w117.cell? ⟨gb250, 1, none⟩ = some (.int .u8 ((rd_T71 x5_1 x111_4).f1)) := (blk_cell BK250.out 1).trans rfl; have hfz118_0 := blk_frozen BK250.out 0; have hfz118_1 := blk_frozen BK250.out 1; obtain ⟨Ao119, co119, eo119⟩ := Kd.R_slice HO_7.out; subst eo119; have p257 : 0 ≤ (x111_4 : Int) := of_decide_eq_true (by first | (with_reducible assumption) | assumption); have q257 : x111_4 < (x7_3.length : Int) := of_decide_eq_true (by first | (with_reducible assumption) | assumption); obtain ⟨ad257, e257, hx257_0⟩ := Kd.at_bool (Kd.R_reads' HO_7.out).2.2 x111_4 p257 q257; (try rw [← Nbq109.out] at hx257_0); cases e257; replace p257 := eq_true p257; replace q257 := eq_true q257; have p114 : 0 ≤ ((ji111) : Int) := of_decide_eq_true (by first | (with_reducible assumption) | assumption); have q114 : ((ji111) : Int) < ((x12_4.length : Int) : Int) := of_decide_eq_true (by first | (with_reducible assumption) | assumption); obtain ⟨go114, co114, eo114, gb114, gl114, cl114, HG114⟩ := Kd.R_form HO_12.out (by omega); (first | cases eo114 | (injection eo114 with ea_ en_ ec_; (first | subst ea_ | (injection ea_ with ea_; subst ea_)); subst ec_; clear en_)); have GB114 := Aside0.mk gb114; have GG114 := Aside0.mk HG114; clear gb114 gl114 HG114; obtain ⟨hx114_0, hf114_0⟩ := Kd.R_celln false HO_12.out ((ji111) : Int) p114 q114; replace p114 := eq_true p114; replace q114 := eq_true q114; obtain ⟨hy120_, hz120_⟩ := Kd.R_celln false HO_12.out ((ji111) : Int) (of_decide_eq_true (by first | (with_reducible assumption) | assumption)) (of_decide_eq_true (by first | (with_reducible assumption) | assumption)); have HP120 := Kd.R_putg HO_12.out ((ji111) : Int) (((rd_T71 x5_1 x111_4).f0) == (rd l0 x101_3))) | ((with_reducible refine gate_store (t := 4) (p := 131) rfl ?_); refine store_event (t := 4) (p := 131) (v := ?vo_w121) (w1 := (w117.setCell ⟨go114, ((ji111) : Int).toNat, none⟩ (.bool (((rd_T71 x5_1 x111_4).f0) == (rd l0 x101_3))))) ?hg ?ho ?hn ?hr ?_; (case ho => rfl); (case hg => rfl); (case hn => rfl); (case hr => first | (go_simp; done) | (go_simp; rfl)); intro w121 hw; have hg : w117.grownBy w121 (some go114) := (by rw [hw]; exact HP120.2); have hp_ : Kd.R Kd.bool 4 w121 w.heap.size (fun k_ => some k_ ≠ (.slice (some ad257) x7_3.length co119 : Value).ownBlock) (.slice (some ⟨go114, 0, none⟩) x12_4.length co114) y258 := (by rw [hw, Ny258.out]; exact HP120.1); clear HP120; have n0_ := Aside0.mk (Kd.R_over' (v := (.slice (some ⟨go114, 0, none⟩) x12_4.length co114)) (by (with_reducible repeat (first | apply Kd.R_alloc | apply Kd.R_drewN | apply Kd.R_drew)); exact HO_5.out) (Kd.R_typed HO_12.out) (by decide) hg); have n1_ := Aside0.mk (Kd.R_after (v := (.slice (some ⟨go114, 0, none⟩) x12_4.length co114)) (v1 := (.slice (some ⟨go114, 0, none⟩) x12_4.length co114)) (ok := (fun _ => True)) (by (with_reducible repeat (first | apply Kd.R_alloc | apply Kd.R_drewN | apply Kd.R_drew)); exact Kd.R_mono HO_7.out (fun _ hk => ⟨trivial, hk⟩)) hg (.inl rfl)); have n2_ := Aside0.mk (hp_); have n3_ := Aside0.mk (Kd.R_over' (v := (.slice (some ⟨go114, 0, none⟩) x12_4.length co114)) (by (with_reducible repeat (first | apply Kd.R_alloc | apply Kd.R_drewN | apply Kd.R_drew)); exact HO_109.out) (Kd.R_typed HO_12.out) (by decide) hg); have n4_ := Aside0.mk (blk_grown (g := gb250) (o := .cells #[.int .i32 ((rd_T71 x5_1 x111_4).f0), .int .u8 ((rd_T71 x5_1 x111_4).f1)] 71 (0, 0)) (by (with_reducible repeat (first | refine blk_drewN ?_ _ | refine blk_drew ?_ | refine blk_alloc ?_ _)); exact BK250.out) hg (Kd.R_ne HO_12.out BK250.out (by decide))); have n5_ := Aside0.mk ((by rw [hw]; exact below_set (HB.out) GB114.out : Below w.heap.size w w121)); clear HO_5; clear HO_7; clear HO_12; clear HO_109; clear BK250; clear HB; have HO_5 := n0_; have HO_7 := n1_; have HO_12 := n2_; have HO_109 := n3_; have BK250 := n4_; have HB := n5_; clear n0_ n1_ n2_ n3_ n4_ n5_; clear hg hw hp_))
                            go_roundg k4
                            case measure => have := HK1.out; have := HK2.out; have := HK3.out; have := HK4.out; omega
                            case rel => exact ⟨(y258), (ji111), (by first | rfl | (simp; done) | (simp only [← hji111] <;> (first | rfl | simp)) | (simp [*]; done)), H', ⟨by have := HK1.out; have := HK2.out; have := HK3.out; have := HK4.out; omega⟩, ⟨by (try simp only [hl7_2]); (with_reducible repeat (first | apply Kd.R_alloc | apply Kd.R_drewN | apply Kd.R_drew)); exact Kd.R_mono HO_5.out (fun _ hk => trivial)⟩, ⟨by (try simp only [hl7_2]); (with_reducible repeat (first | apply Kd.R_alloc | apply Kd.R_drewN | apply Kd.R_drew)); exact Kd.R_mono HO_7.out (fun _ hk => hk.2)⟩, ⟨by (try simp only [hl7_2]); (with_reducible repeat (first | apply Kd.R_alloc | apply Kd.R_drewN | apply Kd.R_drew)); exact HO_12.out⟩, ⟨by (try simp only [hl7_2]); (with_reducible repeat (first | apply Kd.R_alloc | apply Kd.R_drewN | apply Kd.R_drew)); exact Kd.R_mono HO_109.out (fun _ hk => trivial)⟩, ⟨by repeat (first | (with_reducible first | exact HB.out | apply below_alloc | apply pw_below_drewN | apply below_drew1 | refine below_set ?_ GE250.out) | exact HB.out)⟩⟩
                           ·rw [if_neg c113] at H
                            exact absurd H (by simp)
                          ·rw [if_neg c112] at H
                           exact absurd H (by simp)
                         ·replace c110 := Bool.eq_false_iff.mpr c110
                          subst c110
                          have H1 : (if 0 ≤ (wrap64 (x111_4 + 1)) then (if (wrap64 (x111_4 + 1)) < (x12_4.length : Int) then (impl_like.l3 k4 x5_1 x7_3 (rd l0 x101_3) (x12_4.set ((wrap64 (x111_4 + 1)) : Int).toNat false) l0 (l0.length : Int) x101_3 x5_1 (x5_1.length : Int) (wrap64 (x111_4 + 1))) else (none)) else (none)) = some r := by rw [if_neg (show ¬ (false = true) by decide)] at H; exact H
                          clear H
                          have H := H1
                          clear H1
                          obtain ⟨ji122, hji122⟩ : ∃ j_ : Int, (wrap64 (x111_4 + 1)) = j_ := ⟨_, rfl⟩
                          replace H : (if 0 ≤ (ji122) then (if (ji122) < (x12_4.length : Int) then (impl_like.l3 k4 x5_1 x7_3 (rd l0 x101_3) (x12_4.set ((ji122) : Int).toNat false) l0 (l0.length : Int) x101_3 x5_1 (x5_1.length : Int) ji122) else (none)) else (none)) = some r := by first | (rw [hji122] at H; exact H) | (simp only [hji122] at H ⊢; exact H)
                          try clear hji71w
                          try clear hji82w
                          try clear hji97w
                          try clear hji111w
                          have hji122w : (IntKind.i64.wrap (x111_4 + 1)) = ji122 := (i64_w _).trans hji122
                          by_cases c123 : 0 ≤ (ji122)
                          ·rw [if_pos c123] at H
                           have c123b0 : decide (0 ≤ (ji122)) = true := decide_eq_true c123
                           clear c123
                           by_cases c124 : (ji122) < (x12_4.length : Int)
                           ·rw [if_pos c124] at H
                            have c124b0 : decide ((ji122) < (x12_4.length : Int)) = true := decide_eq_true c124
                            clear c124
                            obtain ⟨y259, hy259⟩ : ∃ y_ : List Bool, y_ = (x12_4.set ((ji122) : Int).toNat false) := ⟨_, rfl⟩
                            replace H : (impl_like.l3 k4 x5_1 x7_3 (rd l0 x101_3) y259 l0 (l0.length : Int) x101_3 x5_1 (x5_1.length : Int) ji122) = some r := by first | (rw [hy259]; with_reducible exact H) | (have H2_ := (Option.bind_some _ _).symm.trans H; rw [hy259]; with_reducible exact H2_) | (have H2_ := (Option.bind_some _ _).symm.trans H; with_reducible exact H2_) | with_reducible exact H | (rw [hy259]; exact H) | exact H
                            have Ny259 := Aside0.mk hy259
                            clear hy259
                            have H' := Aside0.mk H
                            clear H
                            have p249 : 0 ≤ (x111_4 : Int) := of_decide_eq_true (by first | (with_reducible assumption) | assumption)
                            have q249 : x111_4 < (x5_1.length : Int) := of_decide_eq_true (by first | (with_reducible assumption) | assumption)
                            obtain ⟨ad249, e249, hx249_0, hx249_1⟩ := at_T71 (Kd.R_reads' HO_109.out).2.2 x111_4 p249 q249
                            cases e249
                            replace p249 := eq_true p249
                            replace q249 := eq_true q249
                            go_wp2_with (first | ((with_reducible refine gate_dst (N := 14) rfl ?_); (try (refine gate_guard (by rfl) ?_; dsimp only)); refine box_event ?hg (N := 14) ?hd (cs := #[.int .i32 0, .int .u8 0]) (t := 71) ?hr ?_; (case hd => rfl); (case hg => rfl); (case hr => first | (go_simp; done) | (go_simp; rfl)); intro gb250 hg w126 hbox hb; have n0_ := Aside0.mk (Kd.R_below (Kd.R_elderB (by (with_reducible repeat (first | apply Kd.R_alloc | apply Kd.R_drewN | apply Kd.R_drew)); exact HO_5.out) gb250 (Nat.le_of_eq hg.symm)) hb); have n1_ := Aside0.mk (Kd.R_below (by (with_reducible repeat (first | apply Kd.R_alloc | apply Kd.R_drewN | apply Kd.R_drew)); exact HO_7.out) hb); have n2_ := Aside0.mk (Kd.R_below (by (with_reducible repeat (first | apply Kd.R_alloc | apply Kd.R_drewN | apply Kd.R_drew)); exact HO_12.out) hb); have n3_ := Aside0.mk (Kd.R_below (Kd.R_elderB (by (with_reducible repeat (first | apply Kd.R_alloc | apply Kd.R_drewN | apply Kd.R_drew)); exact HO_109.out) gb250 (Nat.le_of_eq hg.symm)) hb); have n4_ := Aside0.mk (below_step (by repeat (first | (with_reducible first | exact HB.out | apply below_alloc | apply pw_below_drewN | apply below_drew1) | exact HB.out)) hb); have n5_ := Aside0.mk (hbox); have n6_ := Aside0.mk ((by rw [hg]; exact (below_size (by repeat (first | (with_reducible first | exact HB.out | apply below_alloc | apply pw_below_drewN | apply below_drew1) | exact HB.out))) : w.heap.size ≤ gb250)); have n7_ := Aside0.mk ((by rw [hg]; exact (below_size (by repeat (first | (with_reducible first | exact HB.out | apply below_alloc | apply pw_below_drewN | apply below_drew1) | exact HB.out))) : w.heap.size ≤ gb250)); clear HO_5; clear HO_7; clear HO_12; clear HO_109; clear HB; have HO_5 := n0_; have HO_7 := n1_; have HO_12 := n2_; have HO_109 := n3_; have HB := n4_; have BK250 := n5_; have GW250 := n6_; have GE250 := n7_; clear n0_ n1_ n2_ n3_ n4_ n5_ n6_ n7_; clear hb hbox hg; have hcz127_0 : w126.cell? ⟨gb250, 0, none⟩ = some (.int .i32 0) := (blk_cell BK250.out 0).trans rfl; have hcz127_1 : w126.cell? ⟨gb250, 1, none⟩ = some (.int .u8 0) := (blk_cell BK250.out 1).trans rfl; have hfz127_0 := blk_frozen BK250.out 0; have hfz127_1 := blk_frozen BK250.out 1) | ((with_reducible refine gate_store (t := 71) (p := 14) rfl ?_); refine store_event (t := 71) (p := 14) (v := ?vo_w128) (w1 := ((w126.setCell ⟨gb250, 0, none⟩ (.int .i32 ((rd_T71 x5_1 x111_4).f0))).setCell ⟨gb250, 1, none⟩ (.int .u8 ((rd_T71 x5_1 x111_4).f1)))) ?hg ?ho ?hn ?hr ?_; (case ho => rfl); (case hg => rfl); (case hn => rfl); (case hr => first | (go_simp; done) | (go_simp; rfl)); intro w128 hw; have n0_ : Aside0 (Kd.R k71 71 w128 w.heap.size (fun k_ => k_ ≠ gb250) (.slice (some ad249) x5_1.length co26) x5_1) := ⟨(by rw [hw]; exact (by (with_reducible repeat (first | apply Kd.R_alloc | apply Kd.R_drewN | apply Kd.R_drew)); exact Kd.R_mono (Kd.R_far (p := ⟨gb250, 1, none⟩) (Kd.R_far (p := ⟨gb250, 0, none⟩) (Kd.R_mono HO_5.out (fun k_ hk => (⟨hk, hk.2⟩ : _ ∧ k_ ≠ gb250))) (fun _ hk => hk.2) (.int .i32 ((rd_T71 x5_1 x111_4).f0))) (fun _ hk => hk.2) (.int .u8 ((rd_T71 x5_1 x111_4).f1))) (fun _ hk => hk.1.2)))⟩; have n1_ : Aside0 (Kd.R Kd.bool 4 w128 w.heap.size (fun k_ => some k_ ≠ (v247 : Value).ownBlock) u7 x7_3) := ⟨(by rw [hw]; exact (by (with_reducible repeat (first | apply Kd.R_alloc | apply Kd.R_drewN | apply Kd.R_drew)); exact Kd.R_mono (Kd.R_far (p := ⟨gb250, 1, none⟩) (Kd.R_far (p := ⟨gb250, 0, none⟩) (Kd.R_types HO_7.out BK250.out (by decide)) (fun _ hk => hk.2) (.int .i32 ((rd_T71 x5_1 x111_4).f0))) (fun _ hk => hk.2) (.int .u8 ((rd_T71 x5_1 x111_4).f1))) (fun _ hk => hk.1)))⟩; have n2_ : Aside0 (Kd.R Kd.bool 4 w128 w.heap.size (fun k_ => some k_ ≠ (u7 : Value).ownBlock) v247 x12_4) := ⟨(by rw [hw]; exact (by (with_reducible repeat (first | apply Kd.R_alloc | apply Kd.R_drewN | apply Kd.R_drew)); exact Kd.R_mono (Kd.R_far (p := ⟨gb250, 1, none⟩) (Kd.R_far (p := ⟨gb250, 0, none⟩) (Kd.R_types HO_12.out BK250.out (by decide)) (fun _ hk => hk.2) (.int .i32 ((rd_T71 x5_1 x111_4).f0))) (fun _ hk => hk.2) (.int .u8 ((rd_T71 x5_1 x111_4).f1))) (fun _ hk => hk.1)))⟩; have n3_ : Aside0 (Kd.R k71 71 w128 w.heap.size (fun k_ => k_ ≠ gb250) (.slice (some ad249) x5_1.length co26) x5_1) := ⟨(by rw [hw]; exact (by (with_reducible repeat (first | apply Kd.R_alloc | apply Kd.R_drewN | apply Kd.R_drew)); exact Kd.R_mono (Kd.R_far (p := ⟨gb250, 1, none⟩) (Kd.R_far (p := ⟨gb250, 0, none⟩) (Kd.R_mono HO_109.out (fun k_ hk => (⟨hk, hk.2⟩ : _ ∧ k_ ≠ gb250))) (fun _ hk => hk.2) (.int .i32 ((rd_T71 x5_1 x111_4).f0))) (fun _ hk => hk.2) (.int .u8 ((rd_T71 x5_1 x111_4).f1))) (fun _ hk => hk.1.2)))⟩; have n4_ : Aside0 (w128.heap[gb250]? = some (.cells #[.int .i32 ((rd_T71 x5_1 x111_4).f0), .int .u8 ((rd_T71 x5_1 x111_4).f1)] 71 (0, 0))) := ⟨(by rw [hw]; exact (by (with_reducible repeat (first | refine blk_drewN ?_ _ | refine blk_drew ?_ | refine blk_alloc ?_ _)); refine blk_put (cs := #[.int .i32 ((rd_T71 x5_1 x111_4).f0), .int .u8 0]) ?_ 1 _ rfl; (with_reducible repeat (first | refine blk_drewN ?_ _ | refine blk_drew ?_ | refine blk_alloc ?_ _)); refine blk_put (cs := #[.int .i32 0, .int .u8 0]) ?_ 0 _ rfl; (with_reducible repeat (first | refine blk_drewN ?_ _ | refine blk_drew ?_ | refine blk_alloc ?_ _)); exact BK250.out))⟩; have n5_ : Aside0 (Below w.heap.size w w128) := ⟨(by rw [hw]; exact (by repeat (first | (with_reducible first | exact HB.out | apply below_alloc | apply pw_below_drewN | apply below_drew1 | refine below_set ?_ GE250.out) | exact HB.out)))⟩; clear hw; clear HO_5; clear HO_7; clear HO_12; clear HO_109; clear BK250; clear HB; have HO_5 := n0_; have HO_7 := n1_; have HO_12 := n2_; have HO_109 := n3_; have BK250 := n4_; have HB := n5_; clear n0_ n1_ n2_ n3_ n4_ n5_; have hcz129_0 : w128.cell? ⟨gb250, 0, none⟩ = some (.int .i32 ((rd_T71 x5_1 x111_4).f0)) := (blk_cell BK250.out 0).trans rfl; have hcz129_1 : w128.cell? ⟨gb250, 1, none⟩ = some (.int .u8 ((rd_T71 x5_1 x111_4).f1)) := (blk_cell BK250.out 1).trans rfl; have hfz129_0 := blk_frozen BK250.out 0; have hfz129_1 := blk_frozen BK250.out 1; obtain ⟨Ao130, co130, eo130⟩ := Kd.R_slice HO_7.out; subst eo130; have p257 : 0 ≤ (x111_4 : Int) := of_decide_eq_true (by first | (with_reducible assumption) | assumption); have q257 : x111_4 < (x7_3.length : Int) := of_decide_eq_true (by first | (with_reducible assumption) | assumption); obtain ⟨ad257, e257, hx257_0⟩ := Kd.at_bool (Kd.R_reads' HO_7.out).2.2 x111_4 p257 q257; (try rw [← Nbq109.out] at hx257_0); cases e257; replace p257 := eq_true p257; replace q257 := eq_true q257; have p125 : 0 ≤ ((ji122) : Int) := of_decide_eq_true (by first | (with_reducible assumption) | assumption); have q125 : ((ji122) : Int) < ((x12_4.length : Int) : Int) := of_decide_eq_true (by first | (with_reducible assumption) | assumption); obtain ⟨go125, co125, eo125, gb125, gl125, cl125, HG125⟩ := Kd.R_form HO_12.out (by omega); (first | cases eo125 | (injection eo125 with ea_ en_ ec_; (first | subst ea_ | (injection ea_ with ea_; subst ea_)); subst ec_; clear en_)); have GB125 := Aside0.mk gb125; have GG125 := Aside0.mk HG125; clear gb125 gl125 HG125; obtain ⟨hx125_0, hf125_0⟩ := Kd.R_celln false HO_12.out ((ji122) : Int) p125 q125; replace p125 := eq_true p125; replace q125 := eq_true q125; obtain ⟨hy131_, hz131_⟩ := Kd.R_celln false HO_12.out ((ji122) : Int) (of_decide_eq_true (by first | (with_reducible assumption) | assumption)) (of_decide_eq_true (by first | (with_reducible assumption) | assumption)); have HP131 := Kd.R_putg HO_12.out ((ji122) : Int) false) | ((with_reducible refine gate_store (t := 4) (p := 131) rfl ?_); refine store_event (t := 4) (p := 131) (v := ?vo_w132) (w1 := (w128.setCell ⟨go125, ((ji122) : Int).toNat, none⟩ (.bool false))) ?hg ?ho ?hn ?hr ?_; (case ho => rfl); (case hg => rfl); (case hn => rfl); (case hr => first | (go_simp; done) | (go_simp; rfl)); intro w132 hw; have hg : w128.grownBy w132 (some go125) := (by rw [hw]; exact HP131.2); have hp_ : Kd.R Kd.bool 4 w132 w.heap.size (fun k_ => some k_ ≠ (.slice (some ad257) x7_3.length co130 : Value).ownBlock) (.slice (some ⟨go125, 0, none⟩) x12_4.length co125) y259 := (by rw [hw, Ny259.out]; exact HP131.1); clear HP131; have n0_ := Aside0.mk (Kd.R_over' (v := (.slice (some ⟨go125, 0, none⟩) x12_4.length co125)) (by (with_reducible repeat (first | apply Kd.R_alloc | apply Kd.R_drewN | apply Kd.R_drew)); exact HO_5.out) (Kd.R_typed HO_12.out) (by decide) hg); have n1_ := Aside0.mk (Kd.R_after (v := (.slice (some ⟨go125, 0, none⟩) x12_4.length co125)) (v1 := (.slice (some ⟨go125, 0, none⟩) x12_4.length co125)) (ok := (fun _ => True)) (by (with_reducible repeat (first | apply Kd.R_alloc | apply Kd.R_drewN | apply Kd.R_drew)); exact Kd.R_mono HO_7.out (fun _ hk => ⟨trivial, hk⟩)) hg (.inl rfl)); have n2_ := Aside0.mk (hp_); have n3_ := Aside0.mk (Kd.R_over' (v := (.slice (some ⟨go125, 0, none⟩) x12_4.length co125)) (by (with_reducible repeat (first | apply Kd.R_alloc | apply Kd.R_drewN | apply Kd.R_drew)); exact HO_109.out) (Kd.R_typed HO_12.out) (by decide) hg); have n4_ := Aside0.mk (blk_grown (g := gb250) (o := .cells #[.int .i32 ((rd_T71 x5_1 x111_4).f0), .int .u8 ((rd_T71 x5_1 x111_4).f1)] 71 (0, 0)) (by (with_reducible repeat (first | refine blk_drewN ?_ _ | refine blk_drew ?_ | refine blk_alloc ?_ _)); exact BK250.out) hg (Kd.R_ne HO_12.out BK250.out (by decide))); have n5_ := Aside0.mk ((by rw [hw]; exact below_set (HB.out) GB125.out : Below w.heap.size w w132)); clear HO_5; clear HO_7; clear HO_12; clear HO_109; clear BK250; clear HB; have HO_5 := n0_; have HO_7 := n1_; have HO_12 := n2_; have HO_109 := n3_; have BK250 := n4_; have HB := n5_; clear n0_ n1_ n2_ n3_ n4_ n5_; clear hg hw hp_))
                            go_roundg k4
                            case measure => have := HK1.out; have := HK2.out; have := HK3.out; have := HK4.out; omega
                            case rel => exact ⟨(y259), (ji122), (by first | rfl | (simp; done) | (simp only [← hji122] <;> (first | rfl | simp)) | (simp [*]; done)), H', ⟨by have := HK1.out; have := HK2.out; have := HK3.out; have := HK4.out; omega⟩, ⟨by (try simp only [hl7_2]); (with_reducible repeat (first | apply Kd.R_alloc | apply Kd.R_drewN | apply Kd.R_drew)); exact Kd.R_mono HO_5.out (fun _ hk => trivial)⟩, ⟨by (try simp only [hl7_2]); (with_reducible repeat (first | apply Kd.R_alloc | apply Kd.R_drewN | apply Kd.R_drew)); exact Kd.R_mono HO_7.out (fun _ hk => hk.2)⟩, ⟨by (try simp only [hl7_2]); (with_reducible repeat (first | apply Kd.R_alloc | apply Kd.R_drewN | apply Kd.R_drew)); exact HO_12.out⟩, ⟨by (try simp only [hl7_2]); (with_reducible repeat (first | apply Kd.R_alloc | apply Kd.R_drewN | apply Kd.R_drew)); exact Kd.R_mono HO_109.out (fun _ hk => trivial)⟩, ⟨by repeat (first | (with_reducible first | exact HB.out | apply below_alloc | apply pw_below_drewN | apply below_drew1 | refine below_set ?_ GE250.out) | exact HB.out)⟩⟩
                           ·rw [if_neg c124] at H
                            exact absurd H (by simp)
                          ·rw [if_neg c123] at H
                           exact absurd H (by simp)
                        ·rw [if_neg c108] at H
                         exact absurd H (by simp)
                     ·rw [if_neg c66] at H
                      exact absurd H (by simp)
                    ·rw [if_neg c65] at H
                     exact absurd H (by simp)
                   ·rw [if_neg c64] at H
                    have c64b0 : decide (x111_4 < (x5_1.length : Int)) = false := decide_eq_false c64
                    clear c64
                    have H' := Aside0.mk H
                    clear H
                    go_wp2
                    go_roundg k4
                    case measure => have := HK1.out; have := HK2.out; have := HK3.out; have := HK4.out; omega
                    case rel => exact ⟨(x12_4), (wrap64 (x101_3 + 1)), (by first | rfl | (simp; done) | (simp [*]; done)), H', ⟨by have := HK1.out; have := HK2.out; have := HK3.out; have := HK4.out; omega⟩, ⟨by (try simp only [hl7_2]); (with_reducible repeat (first | apply Kd.R_alloc | apply Kd.R_drewN | apply Kd.R_drew)); exact HO_5.out⟩, ⟨by (try simp only [hl7_2]); (with_reducible repeat (first | apply Kd.R_alloc | apply Kd.R_drewN | apply Kd.R_drew)); exact Kd.R_mono HO_12.out (fun _ hk => trivial)⟩, ⟨by repeat (first | (with_reducible first | exact HB.out | apply below_alloc | apply pw_below_drewN | apply below_drew1) | exact HB.out)⟩⟩
                ·rw [if_neg c61] at H
                 exact absurd H (by simp)
               ·rw [if_neg c60] at H
                exact absurd H (by simp)
              ·rw [if_neg c58] at H
               exact absurd H (by simp)
             ·rw [if_neg c57] at H
              exact absurd H (by simp)
            ·rw [if_neg c56] at H
             have c56b0 : decide (x101_3 < (l0.length : Int)) = false := decide_eq_false c56
             clear c56
             by_cases c133 : 0 ≤ (x5_1.length : Int)
             ·rw [if_pos c133] at H
              have c133b0 : decide (0 ≤ (x5_1.length : Int)) = true := decide_eq_true c133
              have c133b1 : decide (0 ≤ x5_1.length) = true := decide_eq_true (by omega)
              clear c133
              by_cases c134 : (x5_1.length : Int) < (x7_3.length : Int)
              ·rw [if_pos c134] at H
               have c134b0 : decide ((x5_1.length : Int) < (x7_3.length : Int)) = true := decide_eq_true c134
               have c134b1 : decide (x5_1.length < x7_3.length) = true := decide_eq_true (Int.ofNat_lt.mp c134)
               clear c134
               obtain rfl := Option.some.inj H
               obtain ⟨Ao135, co135, eo135⟩ := Kd.R_slice HO_7.out
               subst eo135
               have p244 : 0 ≤ ((x5_1.length : Int) : Int) := of_decide_eq_true (by first | (with_reducible assumption) | assumption)
               have q244 : (x5_1.length : Int) < (x7_3.length : Int) := of_decide_eq_true (by first | (with_reducible assumption) | assumption)
               obtain ⟨ad244, e244, hx244_0⟩ := Kd.at_bool (Kd.R_reads' HO_7.out).2.2 (x5_1.length : Int) p244 q244
               cases e244
               (try simp only [Go.IntWalk.toNatUp] at hx244_0)
               (try simp only [hl7_2] at p244)
               (try simp only [hl7_2] at q244)
               (try simp only [hl7_2] at hx244_0)
               replace p244 := eq_true p244
               replace q244 := eq_true q244
               go_wp2
               go_ret
               exact ⟨by first | rfl | (simp [errW_none, errW_some] <;> rfl) | (simp only [← hji21]; first | rfl | (simp [errW_none, errW_some] <;> rfl)) | (simp [*, errW_none, errW_some] <;> rfl), by repeat (first | (with_reducible first | exact HB.out | apply below_alloc | apply pw_below_drewN | apply below_drew1) | exact HB.out)⟩
              ·rw [if_neg c134] at H
               exact absurd H (by simp)
             ·rw [if_neg c133] at H
              exact absurd H (by simp)
      ·rw [if_neg c24] at H
       exact absurd H (by simp)
     ·rw [if_neg c23] at H
      exact absurd H (by simp)
    ·rw [if_neg c22] at H
     exact absurd H (by simp)

end Go.Proofs.YtaicfmmgmblmiaaDoor.QFnExactLike
