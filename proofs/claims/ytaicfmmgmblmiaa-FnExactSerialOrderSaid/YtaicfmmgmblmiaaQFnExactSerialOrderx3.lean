-- Laid by a program of the session's own (wip/tools/mp.py); not the kit's print.
import Derived.Test.YtaicfmmgmblmiaaHist
import Derived.Test.YtaicfmmgmblmiaaQFnExactSerialOrderx0
import Derived.Test.YtaicfmmgmblmiaaQFnExactSerialOrderx2
namespace Go.Proofs.Ytaicfmmgmblmiaa.QFnExactSerialOrder
open Go.RowKit Go.Proofs.YtaicfmmgmblmiaaW.PrintWords Go.Proofs.YtaicfmmgmblmiaaW.PrintLast Go.Proofs.YtaicfmmgmblmiaaW.PrintMore
attribute [local go_sem] max2_int min2_int max_two min_two max_three min_three max_four min_four   -- for this text's walks alone
set_option linter.unusedVariables false
set_option linter.unusedSimpArgs false

/-! ### spec_SerialOrder: function 6 -/
mutual
def spec_SerialOrder.l0 : Nat → List (S56) → List Int → List (S56) → Int → Int → Option (List Int × Int)
 | 0, _, _, _, _, _ => none
 | k + 1, x0, x4, x22, x23, x24 => if x24 < x23 then (if 0 ≤ x24 then (if x24 < (x22.length : Int) then (spec_SerialOrder.l1 k x0 x4 x24 x22 x23 x24 x0 (x0.length : Int) 0 ((rd_T56 x22 x24).f0) ((rd_T56 x22 x24).f1) ((rd_T56 x22 x24).f2) ((rd_T56 x22 x24).f3)) else (none)) else (none)) else (if 0 ≤ (x0.length : Int) then (if ((x0.length : Int) : Int).toNat ≤ 281474976710656 then (spec_SerialOrder.l2 k x0 x4 (([] : List Int)) (List.replicate ((x0.length : Int) : Int).toNat false)) else (none)) else (none))
def spec_SerialOrder.l1 : Nat → List (S56) → List Int → Int → List (S56) → Int → Int → List (S56) → Int → Int → Int → Int → List Int → List Int → Option (List Int × Int)
 | 0, _, _, _, _, _, _, _, _, _, _, _, _, _ => none
 | k + 1, x0, x4, x5, x22, x23, x24, x29, x30, x31, x124000, x124001, x124002, x124003 => if x31 < x30 then (if 0 ≤ x31 then (if x31 < (x29.length : Int) then (if x5 = x31 then (spec_SerialOrder.l1 k x0 x4 x5 x22 x23 x24 x29 x30 (wrap64 (x31 + 1)) x124000 x124001 x124002 x124003) else (if x124001 ≤ ((rd_T56 x29 x31).f0) then (if x31 < (x4.length : Int) then (spec_SerialOrder.l1 k x0 (x4.set (x31 : Int).toNat (wrap64 ((rd x4 x31) + 1))) x5 x22 x23 x24 x29 x30 (wrap64 (x31 + 1)) x124000 x124001 x124002 x124003) else (none)) else ((spec_l15Leads.f k x124000 x124001 x124002 x124003 ((rd_T56 x29 x31).f0) ((rd_T56 x29 x31).f1) ((rd_T56 x29 x31).f2) ((rd_T56 x29 x31).f3)).bind fun t128 => (if t128 = true then (if x31 < (x4.length : Int) then (spec_SerialOrder.l1 k x0 (x4.set (x31 : Int).toNat (wrap64 ((rd x4 x31) + 1))) x5 x22 x23 x24 x29 x30 (wrap64 (x31 + 1)) x124000 x124001 x124002 x124003) else (none)) else (spec_SerialOrder.l1 k x0 x4 x5 x22 x23 x24 x29 x30 (wrap64 (x31 + 1)) x124000 x124001 x124002 x124003))))) else (none)) else (none)) else (spec_SerialOrder.l0 k x0 x4 x22 x23 (wrap64 (x24 + 1)))
def spec_SerialOrder.l2 : Nat → List (S56) → List Int → List Int → List Bool → Option (List Int × Int)
 | 0, _, _, _, _ => none
 | k + 1, x0, x4, x9, x10 => if (x9.length : Int) < (x0.length : Int) then (spec_SerialOrder.l3 k x0 x4 x9 x10 (-1) (x0.length : Int) 0) else (some (x9, 0))
def spec_SerialOrder.j4 : Nat → List (S56) → List Int → List Int → List Bool → Int → Option (List Int × Int)
 | 0, _, _, _, _, _ => none
 | k + 1, x0, x4, x9, x10, x11 => if x11 < 0 then (some ((([] : List Int)), 21)) else (if 0 ≤ x11 then (if x11 < (x10.length : Int) then (if x9.length < 17592186044416 then (spec_SerialOrder.l4 k x0 x4 (x9 ++ [x11]) (x10.set (x11 : Int).toNat true) x11 x0 (x0.length : Int) 0) else (none)) else (none)) else (none))
def spec_SerialOrder.l4 : Nat → List (S56) → List Int → List Int → List Bool → Int → List (S56) → Int → Int → Option (List Int × Int)
 | 0, _, _, _, _, _, _, _, _ => none
 | k + 1, x0, x4, x9, x10, x11, x97, x98, x99 => if x99 < x98 then (if 0 ≤ x99 then (if x99 < (x97.length : Int) then (if x99 = x11 then (spec_SerialOrder.l4 k x0 x4 x9 x10 x11 x97 x98 (wrap64 (x99 + 1))) else (if 0 ≤ x11 then (if x11 < (x0.length : Int) then (if ((rd_T56 x0 x11).f1) ≤ ((rd_T56 x97 x99).f0) then (if x99 < (x4.length : Int) then (spec_SerialOrder.l4 k x0 (x4.set (x99 : Int).toNat (wrap64 ((rd x4 x99) - 1))) x9 x10 x11 x97 x98 (wrap64 (x99 + 1))) else (none)) else ((spec_l15Leads.f k ((rd_T56 x0 x11).f0) ((rd_T56 x0 x11).f1) ((rd_T56 x0 x11).f2) ((rd_T56 x0 x11).f3) ((rd_T56 x97 x99).f0) ((rd_T56 x97 x99).f1) ((rd_T56 x97 x99).f2) ((rd_T56 x97 x99).f3)).bind fun t152 => (if t152 = true then (if x99 < (x4.length : Int) then (spec_SerialOrder.l4 k x0 (x4.set (x99 : Int).toNat (wrap64 ((rd x4 x99) - 1))) x9 x10 x11 x97 x98 (wrap64 (x99 + 1))) else (none)) else (spec_SerialOrder.l4 k x0 x4 x9 x10 x11 x97 x98 (wrap64 (x99 + 1)))))) else (none)) else (none))) else (none)) else (none)) else (spec_SerialOrder.l2 k x0 x4 x9 x10)
def spec_SerialOrder.l3 : Nat → List (S56) → List Int → List Int → List Bool → Int → Int → Int → Option (List Int × Int)
 | 0, _, _, _, _, _, _, _ => none
 | k + 1, x0, x4, x9, x10, x11, x69, x70 => if x70 < x69 then (if 0 ≤ x70 then (if x70 < (x10.length : Int) then (if rdOf false x10 x70 = true then (spec_SerialOrder.l3 k x0 x4 x9 x10 x11 x69 (wrap64 (x70 + 1))) else (if x70 < (x4.length : Int) then (if (rd x4 x70) = 0 then (spec_SerialOrder.j4 k x0 x4 x9 x10 x70) else (spec_SerialOrder.l3 k x0 x4 x9 x10 x11 x69 (wrap64 (x70 + 1)))) else (none))) else (none)) else (none)) else (spec_SerialOrder.j4 k x0 x4 x9 x10 x11)
end
def spec_SerialOrder.f (k : Nat) (l0 : List (S56)) : Option (List Int × Int) := (spec_l15HistoryOK.f k l0).bind fun t115 => (if t115 = true then (if 0 ≤ (l0.length : Int) then (if ((l0.length : Int) : Int).toNat ≤ 35184372088832 then (spec_SerialOrder.l0 k l0 (List.replicate ((l0.length : Int) : Int).toNat 0) l0 (l0.length : Int) 0) else (none)) else (none)) else (some ((([] : List Int)), 1)))
theorem spec_SerialOrder.mono_l : ∀ k, (∀ y0 y1 y2 y3 y4, LeO (spec_SerialOrder.l0 k y0 y1 y2 y3 y4) (spec_SerialOrder.l0 (k + 1) y0 y1 y2 y3 y4)) ∧ (∀ y0 y1 y2 y3 y4 y5 y6 y7 y8 y9 y10 y11 y12, LeO (spec_SerialOrder.l1 k y0 y1 y2 y3 y4 y5 y6 y7 y8 y9 y10 y11 y12) (spec_SerialOrder.l1 (k + 1) y0 y1 y2 y3 y4 y5 y6 y7 y8 y9 y10 y11 y12)) ∧ (∀ y0 y1 y2 y3, LeO (spec_SerialOrder.l2 k y0 y1 y2 y3) (spec_SerialOrder.l2 (k + 1) y0 y1 y2 y3)) ∧ (∀ y0 y1 y2 y3 y4, LeO (spec_SerialOrder.j4 k y0 y1 y2 y3 y4) (spec_SerialOrder.j4 (k + 1) y0 y1 y2 y3 y4)) ∧ (∀ y0 y1 y2 y3 y4 y5 y6 y7, LeO (spec_SerialOrder.l4 k y0 y1 y2 y3 y4 y5 y6 y7) (spec_SerialOrder.l4 (k + 1) y0 y1 y2 y3 y4 y5 y6 y7)) ∧ (∀ y0 y1 y2 y3 y4 y5 y6, LeO (spec_SerialOrder.l3 k y0 y1 y2 y3 y4 y5 y6) (spec_SerialOrder.l3 (k + 1) y0 y1 y2 y3 y4 y5 y6))
 | 0 => ⟨fun _ _ _ _ _ r h => by simp [spec_SerialOrder.l0] at h, fun _ _ _ _ _ _ _ _ _ _ _ _ _ r h => by simp [spec_SerialOrder.l1] at h, fun _ _ _ _ r h => by simp [spec_SerialOrder.l2] at h, fun _ _ _ _ _ r h => by simp [spec_SerialOrder.j4] at h, fun _ _ _ _ _ _ _ _ r h => by simp [spec_SerialOrder.l4] at h, fun _ _ _ _ _ _ _ r h => by simp [spec_SerialOrder.l3] at h⟩
 | k + 1 => by
  obtain ⟨ih0, ih1, ih2, ih3, ih4, ih5⟩ := spec_SerialOrder.mono_l k
  refine ⟨?_, ?_, ?_, ?_, ?_, ?_⟩
  ·intro y0 y1 y2 y3 y4
   unfold spec_SerialOrder.l0
   repeat' first
   | (with_reducible exact ih0 _ _ _ _ _)
   | (with_reducible exact ih1 _ _ _ _ _ _ _ _ _ _ _ _ _)
   | (with_reducible exact ih2 _ _ _ _)
   | (with_reducible exact ih3 _ _ _ _ _)
   | (with_reducible exact ih4 _ _ _ _ _ _ _ _)
   | (with_reducible exact ih5 _ _ _ _ _ _ _)
   | (with_reducible exact spec_l15HistoryOK.mono _ _)
   | (with_reducible exact spec_l15Leads.mono _ _ _ _ _ _ _ _ _)
   | (with_reducible exact LeO.refl _)
   | (with_reducible exact LeO.none _)
   | (with_reducible refine LeO.ite ?_ ?_)
   | (with_reducible refine LeO.bind ?_ (fun _ => ?_))
   | exact ih0 _ _ _ _ _
   | exact ih1 _ _ _ _ _ _ _ _ _ _ _ _ _
   | exact ih2 _ _ _ _
   | exact ih3 _ _ _ _ _
   | exact ih4 _ _ _ _ _ _ _ _
   | exact ih5 _ _ _ _ _ _ _
   | exact spec_l15HistoryOK.mono _ _
   | exact spec_l15Leads.mono _ _ _ _ _ _ _ _ _
   | exact LeO.none _
   | refine LeO.ite ?_ ?_
   | refine LeO.bind ?_ (fun _ => ?_)
  ·intro y0 y1 y2 y3 y4 y5 y6 y7 y8 y9 y10 y11 y12
   unfold spec_SerialOrder.l1
   repeat' first
   | (with_reducible exact ih0 _ _ _ _ _)
   | (with_reducible exact ih1 _ _ _ _ _ _ _ _ _ _ _ _ _)
   | (with_reducible exact ih2 _ _ _ _)
   | (with_reducible exact ih3 _ _ _ _ _)
   | (with_reducible exact ih4 _ _ _ _ _ _ _ _)
   | (with_reducible exact ih5 _ _ _ _ _ _ _)
   | (with_reducible exact spec_l15HistoryOK.mono _ _)
   | (with_reducible exact spec_l15Leads.mono _ _ _ _ _ _ _ _ _)
   | (with_reducible exact LeO.refl _)
   | (with_reducible exact LeO.none _)
   | (with_reducible refine LeO.ite ?_ ?_)
   | (with_reducible refine LeO.bind ?_ (fun _ => ?_))
   | exact ih0 _ _ _ _ _
   | exact ih1 _ _ _ _ _ _ _ _ _ _ _ _ _
   | exact ih2 _ _ _ _
   | exact ih3 _ _ _ _ _
   | exact ih4 _ _ _ _ _ _ _ _
   | exact ih5 _ _ _ _ _ _ _
   | exact spec_l15HistoryOK.mono _ _
   | exact spec_l15Leads.mono _ _ _ _ _ _ _ _ _
   | exact LeO.none _
   | refine LeO.ite ?_ ?_
   | refine LeO.bind ?_ (fun _ => ?_)
  ·intro y0 y1 y2 y3
   unfold spec_SerialOrder.l2
   repeat' first
   | (with_reducible exact ih0 _ _ _ _ _)
   | (with_reducible exact ih1 _ _ _ _ _ _ _ _ _ _ _ _ _)
   | (with_reducible exact ih2 _ _ _ _)
   | (with_reducible exact ih3 _ _ _ _ _)
   | (with_reducible exact ih4 _ _ _ _ _ _ _ _)
   | (with_reducible exact ih5 _ _ _ _ _ _ _)
   | (with_reducible exact spec_l15HistoryOK.mono _ _)
   | (with_reducible exact spec_l15Leads.mono _ _ _ _ _ _ _ _ _)
   | (with_reducible exact LeO.refl _)
   | (with_reducible exact LeO.none _)
   | (with_reducible refine LeO.ite ?_ ?_)
   | (with_reducible refine LeO.bind ?_ (fun _ => ?_))
   | exact ih0 _ _ _ _ _
   | exact ih1 _ _ _ _ _ _ _ _ _ _ _ _ _
   | exact ih2 _ _ _ _
   | exact ih3 _ _ _ _ _
   | exact ih4 _ _ _ _ _ _ _ _
   | exact ih5 _ _ _ _ _ _ _
   | exact spec_l15HistoryOK.mono _ _
   | exact spec_l15Leads.mono _ _ _ _ _ _ _ _ _
   | exact LeO.none _
   | refine LeO.ite ?_ ?_
   | refine LeO.bind ?_ (fun _ => ?_)
  ·intro y0 y1 y2 y3 y4
   unfold spec_SerialOrder.j4
   repeat' first
   | (with_reducible exact ih0 _ _ _ _ _)
   | (with_reducible exact ih1 _ _ _ _ _ _ _ _ _ _ _ _ _)
   | (with_reducible exact ih2 _ _ _ _)
   | (with_reducible exact ih3 _ _ _ _ _)
   | (with_reducible exact ih4 _ _ _ _ _ _ _ _)
   | (with_reducible exact ih5 _ _ _ _ _ _ _)
   | (with_reducible exact spec_l15HistoryOK.mono _ _)
   | (with_reducible exact spec_l15Leads.mono _ _ _ _ _ _ _ _ _)
   | (with_reducible exact LeO.refl _)
   | (with_reducible exact LeO.none _)
   | (with_reducible refine LeO.ite ?_ ?_)
   | (with_reducible refine LeO.bind ?_ (fun _ => ?_))
   | exact ih0 _ _ _ _ _
   | exact ih1 _ _ _ _ _ _ _ _ _ _ _ _ _
   | exact ih2 _ _ _ _
   | exact ih3 _ _ _ _ _
   | exact ih4 _ _ _ _ _ _ _ _
   | exact ih5 _ _ _ _ _ _ _
   | exact spec_l15HistoryOK.mono _ _
   | exact spec_l15Leads.mono _ _ _ _ _ _ _ _ _
   | exact LeO.none _
   | refine LeO.ite ?_ ?_
   | refine LeO.bind ?_ (fun _ => ?_)
  ·intro y0 y1 y2 y3 y4 y5 y6 y7
   unfold spec_SerialOrder.l4
   repeat' first
   | (with_reducible exact ih0 _ _ _ _ _)
   | (with_reducible exact ih1 _ _ _ _ _ _ _ _ _ _ _ _ _)
   | (with_reducible exact ih2 _ _ _ _)
   | (with_reducible exact ih3 _ _ _ _ _)
   | (with_reducible exact ih4 _ _ _ _ _ _ _ _)
   | (with_reducible exact ih5 _ _ _ _ _ _ _)
   | (with_reducible exact spec_l15HistoryOK.mono _ _)
   | (with_reducible exact spec_l15Leads.mono _ _ _ _ _ _ _ _ _)
   | (with_reducible exact LeO.refl _)
   | (with_reducible exact LeO.none _)
   | (with_reducible refine LeO.ite ?_ ?_)
   | (with_reducible refine LeO.bind ?_ (fun _ => ?_))
   | exact ih0 _ _ _ _ _
   | exact ih1 _ _ _ _ _ _ _ _ _ _ _ _ _
   | exact ih2 _ _ _ _
   | exact ih3 _ _ _ _ _
   | exact ih4 _ _ _ _ _ _ _ _
   | exact ih5 _ _ _ _ _ _ _
   | exact spec_l15HistoryOK.mono _ _
   | exact spec_l15Leads.mono _ _ _ _ _ _ _ _ _
   | exact LeO.none _
   | refine LeO.ite ?_ ?_
   | refine LeO.bind ?_ (fun _ => ?_)
  ·intro y0 y1 y2 y3 y4 y5 y6
   unfold spec_SerialOrder.l3
   repeat' first
   | (with_reducible exact ih0 _ _ _ _ _)
   | (with_reducible exact ih1 _ _ _ _ _ _ _ _ _ _ _ _ _)
   | (with_reducible exact ih2 _ _ _ _)
   | (with_reducible exact ih3 _ _ _ _ _)
   | (with_reducible exact ih4 _ _ _ _ _ _ _ _)
   | (with_reducible exact ih5 _ _ _ _ _ _ _)
   | (with_reducible exact spec_l15HistoryOK.mono _ _)
   | (with_reducible exact spec_l15Leads.mono _ _ _ _ _ _ _ _ _)
   | (with_reducible exact LeO.refl _)
   | (with_reducible exact LeO.none _)
   | (with_reducible refine LeO.ite ?_ ?_)
   | (with_reducible refine LeO.bind ?_ (fun _ => ?_))
   | exact ih0 _ _ _ _ _
   | exact ih1 _ _ _ _ _ _ _ _ _ _ _ _ _
   | exact ih2 _ _ _ _
   | exact ih3 _ _ _ _ _
   | exact ih4 _ _ _ _ _ _ _ _
   | exact ih5 _ _ _ _ _ _ _
   | exact spec_l15HistoryOK.mono _ _
   | exact spec_l15Leads.mono _ _ _ _ _ _ _ _ _
   | exact LeO.none _
   | refine LeO.ite ?_ ?_
   | refine LeO.bind ?_ (fun _ => ?_)
theorem spec_SerialOrder.mono : ∀ a0 k, LeO (spec_SerialOrder.f k a0) (spec_SerialOrder.f (k + 1) a0) := by
 intro a0 k
 obtain ⟨ih0, ih1, ih2, ih3, ih4, ih5⟩ := spec_SerialOrder.mono_l k
 unfold spec_SerialOrder.f
 repeat' first
   | (with_reducible exact ih0 _ _ _ _ _)
   | (with_reducible exact ih1 _ _ _ _ _ _ _ _ _ _ _ _ _)
   | (with_reducible exact ih2 _ _ _ _)
   | (with_reducible exact ih3 _ _ _ _ _)
   | (with_reducible exact ih4 _ _ _ _ _ _ _ _)
   | (with_reducible exact ih5 _ _ _ _ _ _ _)
   | (with_reducible exact spec_l15HistoryOK.mono _ _)
   | (with_reducible exact spec_l15Leads.mono _ _ _ _ _ _ _ _ _)
   | (with_reducible exact LeO.refl _)
   | (with_reducible exact LeO.none _)
   | (with_reducible refine LeO.ite ?_ ?_)
   | (with_reducible refine LeO.bind ?_ (fun _ => ?_))
   | exact ih0 _ _ _ _ _
   | exact ih1 _ _ _ _ _ _ _ _ _ _ _ _ _
   | exact ih2 _ _ _ _
   | exact ih3 _ _ _ _ _
   | exact ih4 _ _ _ _ _ _ _ _
   | exact ih5 _ _ _ _ _ _ _
   | exact spec_l15HistoryOK.mono _ _
   | exact spec_l15Leads.mono _ _ _ _ _ _ _ _ _
   | exact LeO.none _
   | refine LeO.ite ?_ ?_
   | refine LeO.bind ?_ (fun _ => ?_)
def spec_SerialOrder.T31 : Bool × List (List Nat × List Nat) := (true, [([], []), ([], []), ([0, 1], [0, 1]), ([2], [2]), ([3], [3]), ([3], [3]), ([4, 5, 3], [3, 4, 5]), ([6, 3], [3, 6]), ([7, 3], [3, 7]), ([3], [3]), ([9, 3], [3, 9]), ([8, 10, 3], [3, 8, 10]), ([11, 3, 3], [3, 11]), ([12], [12]), ([12], [12]), ([13, 14, 12], [12, 13, 14]), ([15, 12], [12, 15]), ([12], [12]), ([16, 17, 12, 12], [12, 16, 17]), ([12, 18, 3], [3, 12, 18]), ([3, 19], [3, 19])])
def spec_SerialOrder.B31 : List Nat := [0, 0, 3, 7, 15, 15, 63, 127, 255, 15, 527, 2047, 4095, 8191, 8191, 32767, 65535, 8191, 262143, 524287, 1048575]
theorem spec_SerialOrder.tab31 : rtab .any (opsOf Try.f6 31) = spec_SerialOrder.T31 := by kernel_rfl
theorem spec_SerialOrder.bits31 : waitsOk spec_SerialOrder.T31.2 spec_SerialOrder.B31 = true := by kernel_rfl
set_option maxHeartbeats 8000000 in
set_option maxRecDepth 100000 in
theorem spec_SerialOrder.calls (k : Nat) (A0 : Option Addr) (c0 : Nat) (l0 : List (S56)) (r1 : List Int) (r2 : Int) (w : World) (hr0 : Kd.C k56 w A0 l0.length l0) (hc0 : l0.length ≤ c0) (h : spec_SerialOrder.f k l0 = some (r1, r2)) :
  Calls Try.prog 6 #[.slice A0 l0.length c0] w fun e w' => ∃ v0_ : Value, e = .returned (.tuple #[v0_, .int .i64 r2]) ∧ Kd.R (Kd.int .i64) 3 w' w.heap.size (fun _ => True) v0_ r1 ∧ Below w.heap.size w w' := by
 have hu56 := Try.underlying56
 have HR0 := Aside0.mk hr0
 have HC0 := Aside0.mk hc0
 clear hr0 hc0
 have HB := Aside0.mk (Below.refl w.heap.size w)
 have H : ((spec_l15HistoryOK.f k l0).bind fun t115 => (if t115 = true then (if 0 ≤ (l0.length : Int) then (if ((l0.length : Int) : Int).toNat ≤ 35184372088832 then (spec_SerialOrder.l0 k l0 (List.replicate ((l0.length : Int) : Int).toNat 0) l0 (l0.length : Int) 0) else (none)) else (none)) else (some ((([] : List Int)), 1)))) = some (r1, r2) := h
 clear h
 replace H := Option.bind_eq_some_iff.mp H
 obtain ⟨t115, A20, H⟩ := H
 replace H : (if t115 = true then (if 0 ≤ (l0.length : Int) then (if ((l0.length : Int) : Int).toNat ≤ 35184372088832 then (spec_SerialOrder.l0 k l0 (List.replicate ((l0.length : Int) : Int).toNat 0) l0 (l0.length : Int) 0) else (none)) else (none)) else (some ((([] : List Int)), 1))) = some (r1, r2) := H
 have A2 := Aside0.mk A20
 clear A20
 by_cases c3 : t115 = true
 ·subst c3
  have H1 : (if 0 ≤ (l0.length : Int) then (if ((l0.length : Int) : Int).toNat ≤ 35184372088832 then (spec_SerialOrder.l0 k l0 (List.replicate ((l0.length : Int) : Int).toNat 0) l0 (l0.length : Int) 0) else (none)) else (none)) = some (r1, r2) := by rw [if_pos rfl] at H; exact H
  clear H
  have H := H1
  clear H1
  by_cases c4 : 0 ≤ (l0.length : Int)
  ·rw [if_pos c4] at H
   have c4b0 := eq_true c4
   have c4b1 : decide (0 ≤ (l0.length : Int)) = true := decide_eq_true c4
   clear c4
   by_cases c5 : ((l0.length : Int) : Int).toNat ≤ 35184372088832
   ·rw [if_pos c5] at H
    have c5b0 := eq_true c5
    have c5b1 : decide (((l0.length : Int) : Int).toNat ≤ 35184372088832) = true := decide_eq_true c5
    clear c5
    obtain ⟨y119, hy119⟩ : ∃ y_ : List Int, y_ = (List.replicate ((l0.length : Int) : Int).toNat 0) := ⟨_, rfl⟩
    replace H : (spec_SerialOrder.l0 k l0 y119 l0 (l0.length : Int) 0) = some (r1, r2) := by first | (rw [hy119]; with_reducible exact H) | (have H2_ := (Option.bind_some _ _).symm.trans H; rw [hy119]; with_reducible exact H2_) | (have H2_ := (Option.bind_some _ _).symm.trans H; with_reducible exact H2_) | with_reducible exact H | (rw [hy119]; exact H) | exact H
    have Ny119 := Aside0.mk hy119
    clear hy119
    have H' := Aside0.mk H
    clear H
    go_enter Try.func6, Try.ntmps6
    go_wp2_with (first | ((with_reducible refine gate_callee (f := 27) rfl ?_); refine goesL_ (some 16) rfl rfl Try.func27 (by kernel_rfl) rfl #[.slice A0 l0.length c0] rfl (by (try simp only [List.map_toArray, List.map_cons, List.map_nil]); first | done | rfl | (simp only [List.length_drop, List.length_take]; rfl)) ?_; (with_reducible refine (spec_l15HistoryOK.calls k _ _ l0 true _ ?side1 ?side2 A2.out).mono ?_); (case side1 => repeat (first | exact HR0.out | (with_reducible refine Kd.C_alloc ?_ _) | (with_reducible refine Kd.C_drewN ?_ _) | (with_reducible refine Kd.C_drew ?_))); (case side2 => exact HC0.out); rintro e w6 ⟨rfl, hb⟩; refine ⟨_, rfl, ?_⟩; have n0_ := Aside0.mk (below_step (by repeat (first | (with_reducible first | exact HB.out | apply below_alloc | apply pw_below_drewN | apply below_drew1) | exact HB.out)) hb); clear HB; have HB := n0_; clear n0_; (try clear hb); (try clear hb2); (try clear hk); (try clear hi)) | ((with_reducible refine gate_dst (N := 21) rfl ?_); refine Kd.R_make (Kd.int .i64) _ 3 rfl (N := 21) rfl 24 _ _ rfl (l0.length : Int) rfl rfl Try.underlying24 (.int .i64 0) 8 info3 rfl (by decide) (by omega) 0 (ok := fun _ => True) (okp := fun _ => True) rfl (fun _ hk => hk) trivial (of_decide_eq_true (by first | (with_reducible assumption) | assumption)) (Nat.le_trans (Nat.mul_le_mul_right _ (of_decide_eq_true (by first | (with_reducible assumption) | assumption) : (l0.length : Int).toNat ≤ 35184372088832)) (by omega)) (Below.refl _ _) (Nat.le_refl _) ?_; intro v120 w7 ho8 hb hg_ hnew_; clear hg_ hnew_; (first | rw [← Ny119.out] at ho8 | (simp only [Int.reduceToNat] at ho8; rw [← Ny119.out] at ho8)); have n0_ := Aside0.mk (Kd.R_lower ho8 (below_size (by repeat (first | (with_reducible first | exact HB.out | apply below_alloc | apply pw_below_drewN | apply below_drew1) | exact HB.out)))); have n1_ := Aside0.mk (below_step (by repeat (first | (with_reducible first | exact HB.out | apply below_alloc | apply pw_below_drewN | apply below_drew1) | exact HB.out)) hb); clear HB; have HO121 := n0_; have HB := n1_; clear n0_ n1_; clear hb ho8))
    go_loopg [24] k (fun kq v24 w' => ∃ (x4_1 : List Int) (x24_1 : Int), v24 = .int .i64 x24_1 ∧ Aside0 (spec_SerialOrder.l0 kq l0 x4_1 l0 (l0.length : Int) x24_1 = some (r1, r2)) ∧ Aside0 (kq ≤ k) ∧ Aside0 (Kd.R (Kd.int .i64) 3 w' w.heap.size (fun _ => True) v120 x4_1) ∧ Aside0 (Below w.heap.size w w'))
    case atStart => exact ⟨(y119), (0), (by first | rfl | (simp; done) | (simp [*]; done)), H', ⟨Nat.le_refl _⟩, ⟨by (with_reducible repeat (first | apply Kd.R_alloc | apply Kd.R_drewN | apply Kd.R_drew)); exact HO121.out⟩, ⟨by repeat (first | (with_reducible first | exact HB.out | apply below_alloc | apply pw_below_drewN | apply below_drew1) | exact HB.out)⟩⟩
    case round =>
     clear H'
     try clear c2
     try clear p2
     try clear c3
     try clear c4
     try clear c4b0
     try clear c4b1
     try clear c5
     try clear c5b0
     try clear c5b1
     try clear c6
     obtain ⟨x4_1, x24_1, rfl, HA, HK1, HO_4, HB⟩ := hrel
     cases gk with
     | zero => exact absurd HA.out (by simp [spec_SerialOrder.l0])
     | succ k1 =>
      have H := HA.out
      clear HA
      simp only [spec_SerialOrder.l0] at H
      by_cases c9 : x24_1 < (l0.length : Int)
      ·rw [if_pos c9] at H
       have c9b0 : decide (x24_1 < (l0.length : Int)) = true := decide_eq_true c9
       clear c9
       by_cases c10 : 0 ≤ x24_1
       ·rw [if_pos c10] at H
        have c10b0 : decide (0 ≤ x24_1) = true := decide_eq_true c10
        clear c10
        by_cases c11 : x24_1 < (l0.length : Int)
        ·rw [if_pos c11] at H
         have c11b0 : decide (x24_1 < (l0.length : Int)) = true := decide_eq_true c11
         clear c11
         have H' := Aside0.mk H
         clear H
         have p122 : 0 ≤ (x24_1 : Int) := of_decide_eq_true (by first | (with_reducible assumption) | assumption)
         have q122 : x24_1 < (l0.length : Int) := of_decide_eq_true (by first | (with_reducible assumption) | assumption)
         obtain ⟨ad122, A122_2, c122_2, A122_3, c122_3, e122, hx122_0, hx122_1, hx122_2, hx122_3, hl122_2, hi122_2, hl122_3, hi122_3⟩ := at_T56 HR0.out x24_1 p122 q122
         cases e122
         replace hx122_0 := (HB.out.cell (World.block_lt_of_cell? w _ hx122_0)).trans hx122_0
         replace hx122_1 := (HB.out.cell (World.block_lt_of_cell? w _ hx122_1)).trans hx122_1
         replace hx122_2 := (HB.out.cell (World.block_lt_of_cell? w _ hx122_2)).trans hx122_2
         replace hx122_3 := (HB.out.cell (World.block_lt_of_cell? w _ hx122_3)).trans hx122_3
         have HR122_2 := Aside0.mk hi122_2
         have HC122_2 := Aside0.mk hl122_2
         clear hi122_2 hl122_2
         have HR122_3 := Aside0.mk hi122_3
         have HC122_3 := Aside0.mk hl122_3
         clear hi122_3 hl122_3
         replace p122 := eq_true p122
         replace q122 := eq_true q122
         go_wp2_with (first | ((with_reducible refine gate_dst (N := 6) rfl ?_); refine box_event ?hg (N := 6) ?hd (cs := #[.int .i64 0, .int .i64 0, .slice none 0 0, .slice none 0 0]) (t := 56) ?hr ?_; (case hd => rfl); (case hg => rfl); (case hr => first | (go_simp; done) | (go_simp; rfl)); intro gb123 hg w12 hbox hb; have n0_ := Aside0.mk (Kd.R_below (by (with_reducible repeat (first | apply Kd.R_alloc | apply Kd.R_drewN | apply Kd.R_drew)); exact HO_4.out) hb); have n1_ := Aside0.mk (below_step (by repeat (first | (with_reducible first | exact HB.out | apply below_alloc | apply pw_below_drewN | apply below_drew1) | exact HB.out)) hb); have n2_ := Aside0.mk (hbox); have n3_ := Aside0.mk ((by rw [hg]; exact (below_size (by repeat (first | (with_reducible first | exact HB.out | apply below_alloc | apply pw_below_drewN | apply below_drew1) | exact HB.out))) : w.heap.size ≤ gb123)); have n4_ := Aside0.mk ((by rw [hg]; exact (below_size (by repeat (first | (with_reducible first | exact HB.out | apply below_alloc | apply pw_below_drewN | apply below_drew1) | exact HB.out))) : w.heap.size ≤ gb123)); clear HO_4; clear HB; have HO_4 := n0_; have HB := n1_; have BK123 := n2_; have GW123 := n3_; have GE123 := n4_; clear n0_ n1_ n2_ n3_ n4_; clear hb hbox hg; have hcz13_0 : w12.cell? ⟨gb123, 0, none⟩ = some (.int .i64 0) := (blk_cell BK123.out 0).trans rfl; have hcz13_1 : w12.cell? ⟨gb123, 1, none⟩ = some (.int .i64 0) := (blk_cell BK123.out 1).trans rfl; have hcz13_2 : w12.cell? ⟨gb123, 2, none⟩ = some (.slice none 0 0) := (blk_cell BK123.out 2).trans rfl; have hcz13_3 : w12.cell? ⟨gb123, 3, none⟩ = some (.slice none 0 0) := (blk_cell BK123.out 3).trans rfl; have hfz13_0 := blk_frozen BK123.out 0; have hfz13_1 := blk_frozen BK123.out 1; have hfz13_2 := blk_frozen BK123.out 2; have hfz13_3 := blk_frozen BK123.out 3))
         go_loopg [31] k1 (fun kq v31 w' => ∃ (x4_2 : List Int) (x31_2 : Int), v31 = .int .i64 x31_2 ∧ Aside0 (spec_SerialOrder.l1 kq l0 x4_2 x24_1 l0 (l0.length : Int) x24_1 l0 (l0.length : Int) x31_2 ((rd_T56 l0 x24_1).f0) ((rd_T56 l0 x24_1).f1) ((rd_T56 l0 x24_1).f2) ((rd_T56 l0 x24_1).f3) = some (r1, r2)) ∧ Aside0 (kq ≤ k1) ∧ Aside0 (Kd.R (Kd.int .i64) 3 w' w.heap.size (fun _ => True) v120 x4_2) ∧ Aside0 (w'.heap[gb123]? = some (.cells #[.int .i64 ((rd_T56 l0 x24_1).f0), .int .i64 ((rd_T56 l0 x24_1).f1), (.slice A122_2 ((rd_T56 l0 x24_1).f2).length c122_2), (.slice A122_3 ((rd_T56 l0 x24_1).f3).length c122_3)] 56 (0, 0))) ∧ Aside0 (Below w.heap.size w w'))
         case atStart => exact ⟨(x4_1), (0), (by first | rfl | (simp; done) | (simp [*]; done)), H', ⟨Nat.le_refl _⟩, ⟨by (with_reducible repeat (first | apply Kd.R_alloc | apply Kd.R_drewN | apply Kd.R_drew)); exact Kd.R_mono (Kd.R_far (p := ⟨gb123, 3, none⟩) (Kd.R_far (p := ⟨gb123, 2, none⟩) (Kd.R_far (p := ⟨gb123, 1, none⟩) (Kd.R_far (p := ⟨gb123, 0, none⟩) (Kd.R_types HO_4.out BK123.out (by decide)) (fun _ hk => hk.2) (.int .i64 ((rd_T56 l0 x24_1).f0))) (fun _ hk => hk.2) (.int .i64 ((rd_T56 l0 x24_1).f1))) (fun _ hk => hk.2) (.slice A122_2 ((rd_T56 l0 x24_1).f2).length c122_2)) (fun _ hk => hk.2) (.slice A122_3 ((rd_T56 l0 x24_1).f3).length c122_3)) (fun _ hk => trivial)⟩, ⟨by (with_reducible repeat (first | refine blk_drewN ?_ _ | refine blk_drew ?_ | refine blk_alloc ?_ _)); refine blk_put (cs := #[.int .i64 ((rd_T56 l0 x24_1).f0), .int .i64 ((rd_T56 l0 x24_1).f1), .slice A122_2 ((rd_T56 l0 x24_1).f2).length c122_2, .slice none 0 0]) ?_ 3 _ rfl; (with_reducible repeat (first | refine blk_drewN ?_ _ | refine blk_drew ?_ | refine blk_alloc ?_ _)); refine blk_put (cs := #[.int .i64 ((rd_T56 l0 x24_1).f0), .int .i64 ((rd_T56 l0 x24_1).f1), .slice none 0 0, .slice none 0 0]) ?_ 2 _ rfl; (with_reducible repeat (first | refine blk_drewN ?_ _ | refine blk_drew ?_ | refine blk_alloc ?_ _)); refine blk_put (cs := #[.int .i64 ((rd_T56 l0 x24_1).f0), .int .i64 0, .slice none 0 0, .slice none 0 0]) ?_ 1 _ rfl; (with_reducible repeat (first | refine blk_drewN ?_ _ | refine blk_drew ?_ | refine blk_alloc ?_ _)); refine blk_put (cs := #[.int .i64 0, .int .i64 0, .slice none 0 0, .slice none 0 0]) ?_ 0 _ rfl; (with_reducible repeat (first | refine blk_drewN ?_ _ | refine blk_drew ?_ | refine blk_alloc ?_ _)); exact BK123.out⟩, ⟨by repeat (first | (with_reducible first | exact HB.out | apply below_alloc | apply pw_below_drewN | apply below_drew1 | refine below_set ?_ GE123.out) | exact HB.out)⟩⟩
         case round =>
          clear H'
          try clear c1
          try clear p1
          try clear q1
          try clear hx1
          try clear c2
          try clear p2
          try clear c3
          try clear c4
          try clear c4b0
          try clear c4b1
          try clear c5
          try clear c5b0
          try clear c5b1
          try clear c6
          try clear c9
          try clear c9b0
          try clear c10
          try clear c10b0
          try clear c11
          try clear c11b0
          try clear c12
          try clear p12
          try clear q12
          try clear hx12
          try clear hcz13_0
          try clear hcz13_1
          try clear hcz13_2
          try clear hcz13_3
          try clear hfz13_0
          try clear hfz13_1
          try clear hfz13_2
          try clear hfz13_3
          try clear hx122_0
          try clear hx122_1
          try clear hx122_2
          try clear hx122_3
          try clear p122
          try clear p2
          try clear q122
          obtain ⟨x4_2, x31_2, rfl, HA, HK2, HO_4, BK123, HB⟩ := hrel
          cases gk with
          | zero => exact absurd HA.out (by simp [spec_SerialOrder.l1])
          | succ k2 =>
           have H := HA.out
           clear HA
           simp only [spec_SerialOrder.l1] at H
           by_cases c14 : x31_2 < (l0.length : Int)
           ·rw [if_pos c14] at H
            have c14b0 : decide (x31_2 < (l0.length : Int)) = true := decide_eq_true c14
            clear c14
            by_cases c15 : 0 ≤ x31_2
            ·rw [if_pos c15] at H
             have c15b0 : decide (0 ≤ x31_2) = true := decide_eq_true c15
             clear c15
             by_cases c16 : x31_2 < (l0.length : Int)
             ·rw [if_pos c16] at H
              have c16b0 : decide (x31_2 < (l0.length : Int)) = true := decide_eq_true c16
              clear c16
              by_cases c17 : x24_1 = x31_2
              ·rw [if_pos c17] at H
               have c17b0 : (x24_1 == x31_2) = true := beq_iff_eq.mpr c17
               have c17b1 : (x24_1 != x31_2) = false := bne_eq_false_iff_eq.mpr c17
               clear c17
               have H' := Aside0.mk H
               clear H
               have p124 : 0 ≤ (x31_2 : Int) := of_decide_eq_true (by first | (with_reducible assumption) | assumption)
               have q124 : x31_2 < (l0.length : Int) := of_decide_eq_true (by first | (with_reducible assumption) | assumption)
               obtain ⟨ad124, A124_2, c124_2, A124_3, c124_3, e124, hx124_0, hx124_1, hx124_2, hx124_3, hl124_2, hi124_2, hl124_3, hi124_3⟩ := at_T56 HR0.out x31_2 p124 q124
               obtain rfl : ad122 = ad124 := (by injection e124)
               replace hx124_0 := (HB.out.cell (World.block_lt_of_cell? w _ hx124_0)).trans hx124_0
               replace hx124_1 := (HB.out.cell (World.block_lt_of_cell? w _ hx124_1)).trans hx124_1
               replace hx124_2 := (HB.out.cell (World.block_lt_of_cell? w _ hx124_2)).trans hx124_2
               replace hx124_3 := (HB.out.cell (World.block_lt_of_cell? w _ hx124_3)).trans hx124_3
               have HR124_2 := Aside0.mk hi124_2
               have HC124_2 := Aside0.mk hl124_2
               clear hi124_2 hl124_2
               have HR124_3 := Aside0.mk hi124_3
               have HC124_3 := Aside0.mk hl124_3
               clear hi124_3 hl124_3
               replace p124 := eq_true p124
               replace q124 := eq_true q124
               go_wp2_with (first | ((with_reducible refine gate_dst (N := 8) rfl ?_); refine box_event ?hg (N := 8) ?hd (cs := #[.int .i64 0, .int .i64 0, .slice none 0 0, .slice none 0 0]) (t := 56) ?hr ?_; (case hd => rfl); (case hg => rfl); (case hr => first | (go_simp; done) | (go_simp; rfl)); intro gb125 hg w18 hbox hb; have n0_ := Aside0.mk (Kd.R_below (by (with_reducible repeat (first | apply Kd.R_alloc | apply Kd.R_drewN | apply Kd.R_drew)); exact HO_4.out) hb); have n1_ := Aside0.mk (blk_below (g := gb123) (o := .cells #[.int .i64 ((rd_T56 l0 x24_1).f0), .int .i64 ((rd_T56 l0 x24_1).f1), .slice A122_2 ((rd_T56 l0 x24_1).f2).length c122_2, .slice A122_3 ((rd_T56 l0 x24_1).f3).length c122_3] 56 (0, 0)) (by (with_reducible repeat (first | refine blk_drewN ?_ _ | refine blk_drew ?_ | refine blk_alloc ?_ _)); exact BK123.out) hb); have n2_ := Aside0.mk (below_step (by repeat (first | (with_reducible first | exact HB.out | apply below_alloc | apply pw_below_drewN | apply below_drew1 | refine below_set ?_ GE123.out) | exact HB.out)) hb); have n3_ := Aside0.mk (hbox); have n4_ := Aside0.mk ((by rw [hg]; exact (below_size (by repeat (first | (with_reducible first | exact HB.out | apply below_alloc | apply pw_below_drewN | apply below_drew1 | refine below_set ?_ GE123.out) | exact HB.out))) : w.heap.size ≤ gb125)); have n5_ := Aside0.mk ((by rw [hg]; exact (below_size (by repeat (first | (with_reducible first | exact HB.out | apply below_alloc | apply pw_below_drewN | apply below_drew1 | refine below_set ?_ GE123.out) | exact HB.out))) : w.heap.size ≤ gb125)); have n6_ := Aside0.mk ((by rw [hg]; exact Nat.ne_of_lt (blk_lt (g := gb123) (o := .cells #[.int .i64 ((rd_T56 l0 x24_1).f0), .int .i64 ((rd_T56 l0 x24_1).f1), .slice A122_2 ((rd_T56 l0 x24_1).f2).length c122_2, .slice A122_3 ((rd_T56 l0 x24_1).f3).length c122_3] 56 (0, 0)) (by (with_reducible repeat (first | refine blk_drewN ?_ _ | refine blk_drew ?_ | refine blk_alloc ?_ _)); exact BK123.out)) : gb123 ≠ gb125)); have n7_ := Aside0.mk ((by rw [hg]; exact Nat.ne_of_gt (blk_lt (g := gb123) (o := .cells #[.int .i64 ((rd_T56 l0 x24_1).f0), .int .i64 ((rd_T56 l0 x24_1).f1), .slice A122_2 ((rd_T56 l0 x24_1).f2).length c122_2, .slice A122_3 ((rd_T56 l0 x24_1).f3).length c122_3] 56 (0, 0)) (by (with_reducible repeat (first | refine blk_drewN ?_ _ | refine blk_drew ?_ | refine blk_alloc ?_ _)); exact BK123.out)) : gb125 ≠ gb123)); clear HO_4; clear BK123; clear HB; have HO_4 := n0_; have BK123 := n1_; have HB := n2_; have BK125 := n3_; have GW125 := n4_; have GE125 := n5_; have NB123_125 := n6_; have NB125_123 := n7_; clear n0_ n1_ n2_ n3_ n4_ n5_ n6_ n7_; clear hb hbox hg; have hnb19 := NB125_123.out; have hnc19 := NB123_125.out; have hcz20_0 : w18.cell? ⟨gb125, 0, none⟩ = some (.int .i64 0) := (blk_cell BK125.out 0).trans rfl; have hcz20_1 : w18.cell? ⟨gb125, 1, none⟩ = some (.int .i64 0) := (blk_cell BK125.out 1).trans rfl; have hcz20_2 : w18.cell? ⟨gb125, 2, none⟩ = some (.slice none 0 0) := (blk_cell BK125.out 2).trans rfl; have hcz20_3 : w18.cell? ⟨gb125, 3, none⟩ = some (.slice none 0 0) := (blk_cell BK125.out 3).trans rfl; have hfz20_0 := blk_frozen BK125.out 0; have hfz20_1 := blk_frozen BK125.out 1; have hfz20_2 := blk_frozen BK125.out 2; have hfz20_3 := blk_frozen BK125.out 3))
               go_roundg k2
               case measure => have := HK1.out; have := HK2.out; omega
               case rel => exact ⟨(x4_2), (wrap64 (x31_2 + 1)), (by first | rfl | (simp; done) | (simp [*]; done)), H', ⟨by have := HK1.out; have := HK2.out; omega⟩, ⟨by (with_reducible repeat (first | apply Kd.R_alloc | apply Kd.R_drewN | apply Kd.R_drew)); exact Kd.R_mono (Kd.R_far (p := ⟨gb125, 3, none⟩) (Kd.R_far (p := ⟨gb125, 2, none⟩) (Kd.R_far (p := ⟨gb125, 1, none⟩) (Kd.R_far (p := ⟨gb125, 0, none⟩) (Kd.R_types HO_4.out BK125.out (by decide)) (fun _ hk => hk.2) (.int .i64 ((rd_T56 l0 x31_2).f0))) (fun _ hk => hk.2) (.int .i64 ((rd_T56 l0 x31_2).f1))) (fun _ hk => hk.2) (.slice A124_2 ((rd_T56 l0 x31_2).f2).length c124_2)) (fun _ hk => hk.2) (.slice A124_3 ((rd_T56 l0 x31_2).f3).length c124_3)) (fun _ hk => trivial)⟩, ⟨by (with_reducible repeat (first | refine blk_drewN ?_ _ | refine blk_drew ?_ | refine blk_alloc ?_ _)); refine blk_far ?_ NB123_125.out _; (with_reducible repeat (first | refine blk_drewN ?_ _ | refine blk_drew ?_ | refine blk_alloc ?_ _)); refine blk_far ?_ NB123_125.out _; (with_reducible repeat (first | refine blk_drewN ?_ _ | refine blk_drew ?_ | refine blk_alloc ?_ _)); refine blk_far ?_ NB123_125.out _; (with_reducible repeat (first | refine blk_drewN ?_ _ | refine blk_drew ?_ | refine blk_alloc ?_ _)); refine blk_far ?_ NB123_125.out _; (with_reducible repeat (first | refine blk_drewN ?_ _ | refine blk_drew ?_ | refine blk_alloc ?_ _)); exact BK123.out⟩, ⟨by repeat (first | (with_reducible first | exact HB.out | apply below_alloc | apply pw_below_drewN | apply below_drew1 | refine below_set ?_ GE123.out | refine below_set ?_ GE125.out) | exact HB.out)⟩⟩
              ·rw [if_neg c17] at H
               have c17b0 : (x24_1 == x31_2) = false := beq_eq_false_iff_ne.mpr c17
               have c17b1 : (x24_1 != x31_2) = true := bne_iff_ne.mpr c17
               by_cases c21 : ((rd_T56 l0 x24_1).f1) ≤ ((rd_T56 l0 x31_2).f0)
               ·rw [if_pos c21] at H
                have c21b0 : decide (((rd_T56 l0 x24_1).f1) ≤ ((rd_T56 l0 x31_2).f0)) = true := decide_eq_true c21
                clear c21
                by_cases c22 : x31_2 < (x4_2.length : Int)
                ·rw [if_pos c22] at H
                 have c22b0 : decide (x31_2 < (x4_2.length : Int)) = true := decide_eq_true c22
                 clear c22
                 obtain ⟨y127, hy127⟩ : ∃ y_ : List Int, y_ = (x4_2.set (x31_2 : Int).toNat (wrap64 ((rd x4_2 x31_2) + 1))) := ⟨_, rfl⟩
                 replace H : (spec_SerialOrder.l1 k2 l0 y127 x24_1 l0 (l0.length : Int) x24_1 l0 (l0.length : Int) (wrap64 (x31_2 + 1)) ((rd_T56 l0 x24_1).f0) ((rd_T56 l0 x24_1).f1) ((rd_T56 l0 x24_1).f2) ((rd_T56 l0 x24_1).f3)) = some (r1, r2) := by first | (rw [hy127]; with_reducible exact H) | (have H2_ := (Option.bind_some _ _).symm.trans H; rw [hy127]; with_reducible exact H2_) | (have H2_ := (Option.bind_some _ _).symm.trans H; with_reducible exact H2_) | with_reducible exact H | (rw [hy127]; exact H) | exact H
                 have Ny127 := Aside0.mk hy127
                 clear hy127
                 have H' := Aside0.mk H
                 clear H
                 have p124 : 0 ≤ (x31_2 : Int) := of_decide_eq_true (by first | (with_reducible assumption) | assumption)
                 have q124 : x31_2 < (l0.length : Int) := of_decide_eq_true (by first | (with_reducible assumption) | assumption)
                 obtain ⟨ad124, A124_2, c124_2, A124_3, c124_3, e124, hx124_0, hx124_1, hx124_2, hx124_3, hl124_2, hi124_2, hl124_3, hi124_3⟩ := at_T56 HR0.out x31_2 p124 q124
                 obtain rfl : ad122 = ad124 := (by injection e124)
                 replace hx124_0 := (HB.out.cell (World.block_lt_of_cell? w _ hx124_0)).trans hx124_0
                 replace hx124_1 := (HB.out.cell (World.block_lt_of_cell? w _ hx124_1)).trans hx124_1
                 replace hx124_2 := (HB.out.cell (World.block_lt_of_cell? w _ hx124_2)).trans hx124_2
                 replace hx124_3 := (HB.out.cell (World.block_lt_of_cell? w _ hx124_3)).trans hx124_3
                 have HR124_2 := Aside0.mk hi124_2
                 have HC124_2 := Aside0.mk hl124_2
                 clear hi124_2 hl124_2
                 have HR124_3 := Aside0.mk hi124_3
                 have HC124_3 := Aside0.mk hl124_3
                 clear hi124_3 hl124_3
                 replace p124 := eq_true p124
                 replace q124 := eq_true q124
                 go_wp2_with (first | ((with_reducible refine gate_dst (N := 8) rfl ?_); refine box_event ?hg (N := 8) ?hd (cs := #[.int .i64 0, .int .i64 0, .slice none 0 0, .slice none 0 0]) (t := 56) ?hr ?_; (case hd => rfl); (case hg => rfl); (case hr => first | (go_simp; done) | (go_simp; rfl)); intro gb125 hg w24 hbox hb; have n0_ := Aside0.mk (Kd.R_below (by (with_reducible repeat (first | apply Kd.R_alloc | apply Kd.R_drewN | apply Kd.R_drew)); exact HO_4.out) hb); have n1_ := Aside0.mk (blk_below (g := gb123) (o := .cells #[.int .i64 ((rd_T56 l0 x24_1).f0), .int .i64 ((rd_T56 l0 x24_1).f1), .slice A122_2 ((rd_T56 l0 x24_1).f2).length c122_2, .slice A122_3 ((rd_T56 l0 x24_1).f3).length c122_3] 56 (0, 0)) (by (with_reducible repeat (first | refine blk_drewN ?_ _ | refine blk_drew ?_ | refine blk_alloc ?_ _)); exact BK123.out) hb); have n2_ := Aside0.mk (below_step (by repeat (first | (with_reducible first | exact HB.out | apply below_alloc | apply pw_below_drewN | apply below_drew1 | refine below_set ?_ GE123.out) | exact HB.out)) hb); have n3_ := Aside0.mk (hbox); have n4_ := Aside0.mk ((by rw [hg]; exact (below_size (by repeat (first | (with_reducible first | exact HB.out | apply below_alloc | apply pw_below_drewN | apply below_drew1 | refine below_set ?_ GE123.out) | exact HB.out))) : w.heap.size ≤ gb125)); have n5_ := Aside0.mk ((by rw [hg]; exact (below_size (by repeat (first | (with_reducible first | exact HB.out | apply below_alloc | apply pw_below_drewN | apply below_drew1 | refine below_set ?_ GE123.out) | exact HB.out))) : w.heap.size ≤ gb125)); have n6_ := Aside0.mk ((by rw [hg]; exact Nat.ne_of_lt (blk_lt (g := gb123) (o := .cells #[.int .i64 ((rd_T56 l0 x24_1).f0), .int .i64 ((rd_T56 l0 x24_1).f1), .slice A122_2 ((rd_T56 l0 x24_1).f2).length c122_2, .slice A122_3 ((rd_T56 l0 x24_1).f3).length c122_3] 56 (0, 0)) (by (with_reducible repeat (first | refine blk_drewN ?_ _ | refine blk_drew ?_ | refine blk_alloc ?_ _)); exact BK123.out)) : gb123 ≠ gb125)); have n7_ := Aside0.mk ((by rw [hg]; exact Nat.ne_of_gt (blk_lt (g := gb123) (o := .cells #[.int .i64 ((rd_T56 l0 x24_1).f0), .int .i64 ((rd_T56 l0 x24_1).f1), .slice A122_2 ((rd_T56 l0 x24_1).f2).length c122_2, .slice A122_3 ((rd_T56 l0 x24_1).f3).length c122_3] 56 (0, 0)) (by (with_reducible repeat (first | refine blk_drewN ?_ _ | refine blk_drew ?_ | refine blk_alloc ?_ _)); exact BK123.out)) : gb125 ≠ gb123)); clear HO_4; clear BK123; clear HB; have HO_4 := n0_; have BK123 := n1_; have HB := n2_; have BK125 := n3_; have GW125 := n4_; have GE125 := n5_; have NB123_125 := n6_; have NB125_123 := n7_; clear n0_ n1_ n2_ n3_ n4_ n5_ n6_ n7_; clear hb hbox hg; have hnb25 := NB125_123.out; have hnc25 := NB123_125.out; have hcz26_0 : w24.cell? ⟨gb125, 0, none⟩ = some (.int .i64 0) := (blk_cell BK125.out 0).trans rfl; have hcz26_1 : w24.cell? ⟨gb125, 1, none⟩ = some (.int .i64 0) := (blk_cell BK125.out 1).trans rfl; have hcz26_2 : w24.cell? ⟨gb125, 2, none⟩ = some (.slice none 0 0) := (blk_cell BK125.out 2).trans rfl; have hcz26_3 : w24.cell? ⟨gb125, 3, none⟩ = some (.slice none 0 0) := (blk_cell BK125.out 3).trans rfl; have hfz26_0 := blk_frozen BK125.out 0; have hfz26_1 := blk_frozen BK125.out 1; have hfz26_2 := blk_frozen BK125.out 2; have hfz26_3 := blk_frozen BK125.out 3) | ((with_reducible refine gate_store (t := 56) (p := 8) rfl ?_); refine store_event (t := 56) (p := 8) (v := ?vo_w27) (w1 := ((((w24.setCell ⟨gb125, 0, none⟩ (.int .i64 ((rd_T56 l0 x31_2).f0))).setCell ⟨gb125, 1, none⟩ (.int .i64 ((rd_T56 l0 x31_2).f1))).setCell ⟨gb125, 2, none⟩ (.slice A124_2 ((rd_T56 l0 x31_2).f2).length c124_2)).setCell ⟨gb125, 3, none⟩ (.slice A124_3 ((rd_T56 l0 x31_2).f3).length c124_3))) ?hg ?ho ?hn ?hr ?_; (case ho => rfl); (case hg => rfl); (case hn => rfl); (case hr => first | (go_simp; done) | (go_simp; rfl)); intro w27 hw; have n0_ : Aside0 (Kd.R (Kd.int .i64) 3 w27 w.heap.size (fun _ => True) v120 x4_2) := ⟨(by rw [hw]; exact (by (with_reducible repeat (first | apply Kd.R_alloc | apply Kd.R_drewN | apply Kd.R_drew)); exact Kd.R_mono (Kd.R_far (p := ⟨gb125, 3, none⟩) (Kd.R_far (p := ⟨gb125, 2, none⟩) (Kd.R_far (p := ⟨gb125, 1, none⟩) (Kd.R_far (p := ⟨gb125, 0, none⟩) (Kd.R_types HO_4.out BK125.out (by decide)) (fun _ hk => hk.2) (.int .i64 ((rd_T56 l0 x31_2).f0))) (fun _ hk => hk.2) (.int .i64 ((rd_T56 l0 x31_2).f1))) (fun _ hk => hk.2) (.slice A124_2 ((rd_T56 l0 x31_2).f2).length c124_2)) (fun _ hk => hk.2) (.slice A124_3 ((rd_T56 l0 x31_2).f3).length c124_3)) (fun _ hk => trivial)))⟩; have n1_ : Aside0 (w27.heap[gb123]? = some (.cells #[.int .i64 ((rd_T56 l0 x24_1).f0), .int .i64 ((rd_T56 l0 x24_1).f1), .slice A122_2 ((rd_T56 l0 x24_1).f2).length c122_2, .slice A122_3 ((rd_T56 l0 x24_1).f3).length c122_3] 56 (0, 0))) := ⟨(by rw [hw]; exact (by (with_reducible repeat (first | refine blk_drewN ?_ _ | refine blk_drew ?_ | refine blk_alloc ?_ _)); refine blk_far ?_ NB123_125.out _; (with_reducible repeat (first | refine blk_drewN ?_ _ | refine blk_drew ?_ | refine blk_alloc ?_ _)); refine blk_far ?_ NB123_125.out _; (with_reducible repeat (first | refine blk_drewN ?_ _ | refine blk_drew ?_ | refine blk_alloc ?_ _)); refine blk_far ?_ NB123_125.out _; (with_reducible repeat (first | refine blk_drewN ?_ _ | refine blk_drew ?_ | refine blk_alloc ?_ _)); refine blk_far ?_ NB123_125.out _; (with_reducible repeat (first | refine blk_drewN ?_ _ | refine blk_drew ?_ | refine blk_alloc ?_ _)); exact BK123.out))⟩; have n2_ : Aside0 (w27.heap[gb125]? = some (.cells #[.int .i64 ((rd_T56 l0 x31_2).f0), .int .i64 ((rd_T56 l0 x31_2).f1), .slice A124_2 ((rd_T56 l0 x31_2).f2).length c124_2, .slice A124_3 ((rd_T56 l0 x31_2).f3).length c124_3] 56 (0, 0))) := ⟨(by rw [hw]; exact (by (with_reducible repeat (first | refine blk_drewN ?_ _ | refine blk_drew ?_ | refine blk_alloc ?_ _)); refine blk_put (cs := #[.int .i64 ((rd_T56 l0 x31_2).f0), .int .i64 ((rd_T56 l0 x31_2).f1), .slice A124_2 ((rd_T56 l0 x31_2).f2).length c124_2, .slice none 0 0]) ?_ 3 _ rfl; (with_reducible repeat (first | refine blk_drewN ?_ _ | refine blk_drew ?_ | refine blk_alloc ?_ _)); refine blk_put (cs := #[.int .i64 ((rd_T56 l0 x31_2).f0), .int .i64 ((rd_T56 l0 x31_2).f1), .slice none 0 0, .slice none 0 0]) ?_ 2 _ rfl; (with_reducible repeat (first | refine blk_drewN ?_ _ | refine blk_drew ?_ | refine blk_alloc ?_ _)); refine blk_put (cs := #[.int .i64 ((rd_T56 l0 x31_2).f0), .int .i64 0, .slice none 0 0, .slice none 0 0]) ?_ 1 _ rfl; (with_reducible repeat (first | refine blk_drewN ?_ _ | refine blk_drew ?_ | refine blk_alloc ?_ _)); refine blk_put (cs := #[.int .i64 0, .int .i64 0, .slice none 0 0, .slice none 0 0]) ?_ 0 _ rfl; (with_reducible repeat (first | refine blk_drewN ?_ _ | refine blk_drew ?_ | refine blk_alloc ?_ _)); exact BK125.out))⟩; have n3_ : Aside0 (Below w.heap.size w w27) := ⟨(by rw [hw]; exact (by repeat (first | (with_reducible first | exact HB.out | apply below_alloc | apply pw_below_drewN | apply below_drew1 | refine below_set ?_ GE123.out | refine below_set ?_ GE125.out) | exact HB.out)))⟩; clear hw; clear HO_4; clear BK123; clear BK125; clear HB; have HO_4 := n0_; have BK123 := n1_; have BK125 := n2_; have HB := n3_; clear n0_ n1_ n2_ n3_; have hcz28_0 : w27.cell? ⟨gb123, 0, none⟩ = some (.int .i64 ((rd_T56 l0 x24_1).f0)) := (blk_cell BK123.out 0).trans rfl; have hcz28_1 : w27.cell? ⟨gb123, 1, none⟩ = some (.int .i64 ((rd_T56 l0 x24_1).f1)) := (blk_cell BK123.out 1).trans rfl; have hcz28_2 : w27.cell? ⟨gb123, 2, none⟩ = some (.slice A122_2 ((rd_T56 l0 x24_1).f2).length c122_2) := (blk_cell BK123.out 2).trans rfl; have hcz28_3 : w27.cell? ⟨gb123, 3, none⟩ = some (.slice A122_3 ((rd_T56 l0 x24_1).f3).length c122_3) := (blk_cell BK123.out 3).trans rfl; have hfz28_0 := blk_frozen BK123.out 0; have hfz28_1 := blk_frozen BK123.out 1; have hfz28_2 := blk_frozen BK123.out 2; have hfz28_3 := blk_frozen BK123.out 3; have hcz29_0 : w27.cell? ⟨gb125, 0, none⟩ = some (.int .i64 ((rd_T56 l0 x31_2).f0)) := (blk_cell BK125.out 0).trans rfl; have hcz29_1 : w27.cell? ⟨gb125, 1, none⟩ = some (.int .i64 ((rd_T56 l0 x31_2).f1)) := (blk_cell BK125.out 1).trans rfl; have hcz29_2 : w27.cell? ⟨gb125, 2, none⟩ = some (.slice A124_2 ((rd_T56 l0 x31_2).f2).length c124_2) := (blk_cell BK125.out 2).trans rfl; have hcz29_3 : w27.cell? ⟨gb125, 3, none⟩ = some (.slice A124_3 ((rd_T56 l0 x31_2).f3).length c124_3) := (blk_cell BK125.out 3).trans rfl; have hfz29_0 := blk_frozen BK125.out 0; have hfz29_1 := blk_frozen BK125.out 1; have hfz29_2 := blk_frozen BK125.out 2; have hfz29_3 := blk_frozen BK125.out 3; obtain ⟨Ao30, co30, eo30⟩ := Kd.R_slice HO_4.out; subst eo30; have p126 : 0 ≤ (x31_2 : Int) := of_decide_eq_true (by first | (with_reducible assumption) | assumption); have q126 : x31_2 < (x4_2.length : Int) := of_decide_eq_true (by first | (with_reducible assumption) | assumption); obtain ⟨ad126, e126, hx126_0⟩ := Kd.at_int (Kd.R_reads' HO_4.out).2.2 x31_2 p126 q126; cases e126; replace p126 := eq_true p126; replace q126 := eq_true q126; have p23 : 0 ≤ (x31_2 : Int) := of_decide_eq_true (by first | (with_reducible assumption) | assumption); have q23 : (x31_2 : Int) < ((x4_2.length : Int) : Int) := of_decide_eq_true (by first | (with_reducible assumption) | assumption); obtain ⟨go23, co23, eo23, gb23, gl23, cl23, HG23⟩ := Kd.R_form HO_4.out (by omega); (first | cases eo23 | (injection eo23 with ea_ en_ ec_; (first | subst ea_ | (injection ea_ with ea_; subst ea_)); subst ec_; clear en_)); have GB23 := Aside0.mk gb23; have GG23 := Aside0.mk HG23; clear gb23 gl23 HG23; (first | simp only [add_plain] at hx126_0 | skip); obtain ⟨hx23_0, hf23_0⟩ := Kd.R_celln 0 HO_4.out (x31_2 : Int) p23 q23; replace p23 := eq_true p23; replace q23 := eq_true q23; obtain ⟨hy31_, hz31_⟩ := Kd.R_celln 0 HO_4.out (x31_2 : Int) (of_decide_eq_true (by first | (with_reducible assumption) | assumption)) (of_decide_eq_true (by first | (with_reducible assumption) | assumption)); have HP31 := Kd.R_putg HO_4.out (x31_2 : Int) (wrap64 ((rd x4_2 x31_2) + 1))) | ((with_reducible refine gate_store (t := 3) (p := 56) rfl ?_); refine store_event (t := 3) (p := 56) (v := ?vo_w32) (w1 := (w27.setCell ⟨go23, (x31_2 : Int).toNat, none⟩ (.int .i64 (wrap64 ((rd x4_2 x31_2) + 1))))) ?hg ?ho ?hn ?hr ?_; (case ho => rfl); (case hg => rfl); (case hn => rfl); (case hr => first | (go_simp; done) | (go_simp; rfl)); intro w32 hw; have hg : w27.grownBy w32 (some go23) := (by rw [hw]; exact HP31.2); have hp_ : Kd.R (Kd.int .i64) 3 w32 w.heap.size (fun _ => True) (.slice (some ⟨go23, 0, none⟩) x4_2.length co30) y127 := (by rw [hw, Ny127.out]; exact HP31.1); clear HP31; have n0_ := Aside0.mk (hp_); have n1_ := Aside0.mk (blk_grown (g := gb123) (o := .cells #[.int .i64 ((rd_T56 l0 x24_1).f0), .int .i64 ((rd_T56 l0 x24_1).f1), .slice A122_2 ((rd_T56 l0 x24_1).f2).length c122_2, .slice A122_3 ((rd_T56 l0 x24_1).f3).length c122_3] 56 (0, 0)) (by (with_reducible repeat (first | refine blk_drewN ?_ _ | refine blk_drew ?_ | refine blk_alloc ?_ _)); exact BK123.out) hg (Kd.R_ne HO_4.out BK123.out (by decide))); have n2_ := Aside0.mk (blk_grown (g := gb125) (o := .cells #[.int .i64 ((rd_T56 l0 x31_2).f0), .int .i64 ((rd_T56 l0 x31_2).f1), .slice A124_2 ((rd_T56 l0 x31_2).f2).length c124_2, .slice A124_3 ((rd_T56 l0 x31_2).f3).length c124_3] 56 (0, 0)) (by (with_reducible repeat (first | refine blk_drewN ?_ _ | refine blk_drew ?_ | refine blk_alloc ?_ _)); exact BK125.out) hg (Kd.R_ne HO_4.out BK125.out (by decide))); have n3_ := Aside0.mk ((by rw [hw]; exact below_set (HB.out) GB23.out : Below w.heap.size w w32)); clear HO_4; clear BK123; clear BK125; clear HB; have HO_4 := n0_; have BK123 := n1_; have BK125 := n2_; have HB := n3_; clear n0_ n1_ n2_ n3_; clear hg hw hp_))
                 go_roundg k2
                 case measure => have := HK1.out; have := HK2.out; omega
                 case rel => exact ⟨(y127), (wrap64 (x31_2 + 1)), (by first | rfl | (simp; done) | (simp [*]; done)), H', ⟨by have := HK1.out; have := HK2.out; omega⟩, ⟨by (with_reducible repeat (first | apply Kd.R_alloc | apply Kd.R_drewN | apply Kd.R_drew)); exact HO_4.out⟩, ⟨by (with_reducible repeat (first | refine blk_drewN ?_ _ | refine blk_drew ?_ | refine blk_alloc ?_ _)); exact BK123.out⟩, ⟨by repeat (first | (with_reducible first | exact HB.out | apply below_alloc | apply pw_below_drewN | apply below_drew1 | refine below_set ?_ GE123.out | refine below_set ?_ GE125.out) | exact HB.out)⟩⟩
                ·rw [if_neg c22] at H
                 exact absurd H (by simp)
               ·rw [if_neg c21] at H
                have c21b0 : decide (((rd_T56 l0 x24_1).f1) ≤ ((rd_T56 l0 x31_2).f0)) = false := decide_eq_false c21
                clear c21
                replace H := Option.bind_eq_some_iff.mp H
                obtain ⟨t128, A330, H⟩ := H
                replace H : (if t128 = true then (if x31_2 < (x4_2.length : Int) then (spec_SerialOrder.l1 k2 l0 (x4_2.set (x31_2 : Int).toNat (wrap64 ((rd x4_2 x31_2) + 1))) x24_1 l0 (l0.length : Int) x24_1 l0 (l0.length : Int) (wrap64 (x31_2 + 1)) ((rd_T56 l0 x24_1).f0) ((rd_T56 l0 x24_1).f1) ((rd_T56 l0 x24_1).f2) ((rd_T56 l0 x24_1).f3)) else (none)) else (spec_SerialOrder.l1 k2 l0 x4_2 x24_1 l0 (l0.length : Int) x24_1 l0 (l0.length : Int) (wrap64 (x31_2 + 1)) ((rd_T56 l0 x24_1).f0) ((rd_T56 l0 x24_1).f1) ((rd_T56 l0 x24_1).f2) ((rd_T56 l0 x24_1).f3))) = some (r1, r2) := H
                have A33 := Aside0.mk A330
                clear A330
                by_cases c34 : t128 = true
                ·subst c34
                 have H1 : (if x31_2 < (x4_2.length : Int) then (spec_SerialOrder.l1 k2 l0 (x4_2.set (x31_2 : Int).toNat (wrap64 ((rd x4_2 x31_2) + 1))) x24_1 l0 (l0.length : Int) x24_1 l0 (l0.length : Int) (wrap64 (x31_2 + 1)) ((rd_T56 l0 x24_1).f0) ((rd_T56 l0 x24_1).f1) ((rd_T56 l0 x24_1).f2) ((rd_T56 l0 x24_1).f3)) else (none)) = some (r1, r2) := by rw [if_pos rfl] at H; exact H
                 clear H
                 have H := H1
                 clear H1
                 by_cases c35 : x31_2 < (x4_2.length : Int)
                 ·rw [if_pos c35] at H
                  have c35b0 : decide (x31_2 < (x4_2.length : Int)) = true := decide_eq_true c35
                  clear c35
                  obtain ⟨y130, hy130⟩ : ∃ y_ : List Int, y_ = (x4_2.set (x31_2 : Int).toNat (wrap64 ((rd x4_2 x31_2) + 1))) := ⟨_, rfl⟩
                  replace H : (spec_SerialOrder.l1 k2 l0 y130 x24_1 l0 (l0.length : Int) x24_1 l0 (l0.length : Int) (wrap64 (x31_2 + 1)) ((rd_T56 l0 x24_1).f0) ((rd_T56 l0 x24_1).f1) ((rd_T56 l0 x24_1).f2) ((rd_T56 l0 x24_1).f3)) = some (r1, r2) := by first | (rw [hy130]; with_reducible exact H) | (have H2_ := (Option.bind_some _ _).symm.trans H; rw [hy130]; with_reducible exact H2_) | (have H2_ := (Option.bind_some _ _).symm.trans H; with_reducible exact H2_) | with_reducible exact H | (rw [hy130]; exact H) | exact H
                  have Ny130 := Aside0.mk hy130
                  clear hy130
                  have H' := Aside0.mk H
                  clear H
                  have p124 : 0 ≤ (x31_2 : Int) := of_decide_eq_true (by first | (with_reducible assumption) | assumption)
                  have q124 : x31_2 < (l0.length : Int) := of_decide_eq_true (by first | (with_reducible assumption) | assumption)
                  obtain ⟨ad124, A124_2, c124_2, A124_3, c124_3, e124, hx124_0, hx124_1, hx124_2, hx124_3, hl124_2, hi124_2, hl124_3, hi124_3⟩ := at_T56 HR0.out x31_2 p124 q124
                  obtain rfl : ad122 = ad124 := (by injection e124)
                  replace hx124_0 := (HB.out.cell (World.block_lt_of_cell? w _ hx124_0)).trans hx124_0
                  replace hx124_1 := (HB.out.cell (World.block_lt_of_cell? w _ hx124_1)).trans hx124_1
                  replace hx124_2 := (HB.out.cell (World.block_lt_of_cell? w _ hx124_2)).trans hx124_2
                  replace hx124_3 := (HB.out.cell (World.block_lt_of_cell? w _ hx124_3)).trans hx124_3
                  have HR124_2 := Aside0.mk hi124_2
                  have HC124_2 := Aside0.mk hl124_2
                  clear hi124_2 hl124_2
                  have HR124_3 := Aside0.mk hi124_3
                  have HC124_3 := Aside0.mk hl124_3
                  clear hi124_3 hl124_3
                  replace p124 := eq_true p124
                  replace q124 := eq_true q124
                  go_wp2_with (first | ((with_reducible refine gate_dst (N := 8) rfl ?_); refine box_event ?hg (N := 8) ?hd (cs := #[.int .i64 0, .int .i64 0, .slice none 0 0, .slice none 0 0]) (t := 56) ?hr ?_; (case hd => rfl); (case hg => rfl); (case hr => first | (go_simp; done) | (go_simp; rfl)); intro gb125 hg w37 hbox hb; have n0_ := Aside0.mk (Kd.R_below (by (with_reducible repeat (first | apply Kd.R_alloc | apply Kd.R_drewN | apply Kd.R_drew)); exact HO_4.out) hb); have n1_ := Aside0.mk (blk_below (g := gb123) (o := .cells #[.int .i64 ((rd_T56 l0 x24_1).f0), .int .i64 ((rd_T56 l0 x24_1).f1), .slice A122_2 ((rd_T56 l0 x24_1).f2).length c122_2, .slice A122_3 ((rd_T56 l0 x24_1).f3).length c122_3] 56 (0, 0)) (by (with_reducible repeat (first | refine blk_drewN ?_ _ | refine blk_drew ?_ | refine blk_alloc ?_ _)); exact BK123.out) hb); have n2_ := Aside0.mk (below_step (by repeat (first | (with_reducible first | exact HB.out | apply below_alloc | apply pw_below_drewN | apply below_drew1 | refine below_set ?_ GE123.out) | exact HB.out)) hb); have n3_ := Aside0.mk (hbox); have n4_ := Aside0.mk ((by rw [hg]; exact (below_size (by repeat (first | (with_reducible first | exact HB.out | apply below_alloc | apply pw_below_drewN | apply below_drew1 | refine below_set ?_ GE123.out) | exact HB.out))) : w.heap.size ≤ gb125)); have n5_ := Aside0.mk ((by rw [hg]; exact (below_size (by repeat (first | (with_reducible first | exact HB.out | apply below_alloc | apply pw_below_drewN | apply below_drew1 | refine below_set ?_ GE123.out) | exact HB.out))) : w.heap.size ≤ gb125)); have n6_ := Aside0.mk ((by rw [hg]; exact Nat.ne_of_lt (blk_lt (g := gb123) (o := .cells #[.int .i64 ((rd_T56 l0 x24_1).f0), .int .i64 ((rd_T56 l0 x24_1).f1), .slice A122_2 ((rd_T56 l0 x24_1).f2).length c122_2, .slice A122_3 ((rd_T56 l0 x24_1).f3).length c122_3] 56 (0, 0)) (by (with_reducible repeat (first | refine blk_drewN ?_ _ | refine blk_drew ?_ | refine blk_alloc ?_ _)); exact BK123.out)) : gb123 ≠ gb125)); have n7_ := Aside0.mk ((by rw [hg]; exact Nat.ne_of_gt (blk_lt (g := gb123) (o := .cells #[.int .i64 ((rd_T56 l0 x24_1).f0), .int .i64 ((rd_T56 l0 x24_1).f1), .slice A122_2 ((rd_T56 l0 x24_1).f2).length c122_2, .slice A122_3 ((rd_T56 l0 x24_1).f3).length c122_3] 56 (0, 0)) (by (with_reducible repeat (first | refine blk_drewN ?_ _ | refine blk_drew ?_ | refine blk_alloc ?_ _)); exact BK123.out)) : gb125 ≠ gb123)); clear HO_4; clear BK123; clear HB; have HO_4 := n0_; have BK123 := n1_; have HB := n2_; have BK125 := n3_; have GW125 := n4_; have GE125 := n5_; have NB123_125 := n6_; have NB125_123 := n7_; clear n0_ n1_ n2_ n3_ n4_ n5_ n6_ n7_; clear hb hbox hg; have hnb38 := NB125_123.out; have hnc38 := NB123_125.out; have hcz39_0 : w37.cell? ⟨gb125, 0, none⟩ = some (.int .i64 0) := (blk_cell BK125.out 0).trans rfl; have hcz39_1 : w37.cell? ⟨gb125, 1, none⟩ = some (.int .i64 0) := (blk_cell BK125.out 1).trans rfl; have hcz39_2 : w37.cell? ⟨gb125, 2, none⟩ = some (.slice none 0 0) := (blk_cell BK125.out 2).trans rfl; have hcz39_3 : w37.cell? ⟨gb125, 3, none⟩ = some (.slice none 0 0) := (blk_cell BK125.out 3).trans rfl; have hfz39_0 := blk_frozen BK125.out 0; have hfz39_1 := blk_frozen BK125.out 1; have hfz39_2 := blk_frozen BK125.out 2; have hfz39_3 := blk_frozen BK125.out 3; have hcz40_0 : w37.cell? ⟨gb123, 0, none⟩ = some (.int .i64 ((rd_T56 l0 x24_1).f0)) := (blk_cell BK123.out 0).trans rfl; have hcz40_1 : w37.cell? ⟨gb123, 1, none⟩ = some (.int .i64 ((rd_T56 l0 x24_1).f1)) := (blk_cell BK123.out 1).trans rfl; have hcz40_2 : w37.cell? ⟨gb123, 2, none⟩ = some (.slice A122_2 ((rd_T56 l0 x24_1).f2).length c122_2) := (blk_cell BK123.out 2).trans rfl; have hcz40_3 : w37.cell? ⟨gb123, 3, none⟩ = some (.slice A122_3 ((rd_T56 l0 x24_1).f3).length c122_3) := (blk_cell BK123.out 3).trans rfl; have hfz40_0 := blk_frozen BK123.out 0; have hfz40_1 := blk_frozen BK123.out 1; have hfz40_2 := blk_frozen BK123.out 2; have hfz40_3 := blk_frozen BK123.out 3) | (go_at_call 28; (with_reducible refine (spec_l15Leads.calls k2 ((rd_T56 l0 x24_1).f0) ((rd_T56 l0 x24_1).f1) _ _ ((rd_T56 l0 x24_1).f2) _ _ ((rd_T56 l0 x24_1).f3) ((rd_T56 l0 x31_2).f0) ((rd_T56 l0 x31_2).f1) _ _ ((rd_T56 l0 x31_2).f2) _ _ ((rd_T56 l0 x31_2).f3) true _ ?side1 ?side2 ?side3 ?side4 ?side5 ?side6 ?side7 ?side8 A33.out).mono ?_); (case side1 => exact Kd.C_below HR122_2.out (by repeat (first | (with_reducible first | exact HB.out | apply below_alloc | apply pw_below_drewN | apply below_drew1 | refine below_set ?_ GE123.out | refine below_set ?_ GE125.out) | exact HB.out))); (case side2 => exact HC122_2.out); (case side3 => exact Kd.C_below HR122_3.out (by repeat (first | (with_reducible first | exact HB.out | apply below_alloc | apply pw_below_drewN | apply below_drew1 | refine below_set ?_ GE123.out | refine below_set ?_ GE125.out) | exact HB.out))); (case side4 => exact HC122_3.out); (case side5 => exact Kd.C_below HR124_2.out (by repeat (first | (with_reducible first | exact HB.out | apply below_alloc | apply pw_below_drewN | apply below_drew1 | refine below_set ?_ GE123.out | refine below_set ?_ GE125.out) | exact HB.out))); (case side6 => exact HC124_2.out); (case side7 => exact Kd.C_below HR124_3.out (by repeat (first | (with_reducible first | exact HB.out | apply below_alloc | apply pw_below_drewN | apply below_drew1 | refine below_set ?_ GE123.out | refine below_set ?_ GE125.out) | exact HB.out))); (case side8 => exact HC124_3.out); rintro e w41 ⟨rfl, hb⟩; have n0_ := Aside0.mk (Kd.R_below (by (with_reducible repeat (first | apply Kd.R_alloc | apply Kd.R_drewN | apply Kd.R_drew)); exact (Kd.R_mono (Kd.R_far (p := ⟨gb125, 3, none⟩) (Kd.R_far (p := ⟨gb125, 2, none⟩) (Kd.R_far (p := ⟨gb125, 1, none⟩) (Kd.R_far (p := ⟨gb125, 0, none⟩) (Kd.R_types HO_4.out BK125.out (by decide)) (fun _ hk => hk.2) (.int .i64 ((rd_T56 l0 x31_2).f0))) (fun _ hk => hk.2) (.int .i64 ((rd_T56 l0 x31_2).f1))) (fun _ hk => hk.2) (.slice A124_2 ((rd_T56 l0 x31_2).f2).length c124_2)) (fun _ hk => hk.2) (.slice A124_3 ((rd_T56 l0 x31_2).f3).length c124_3)) (fun _ h_ => h_.1))) hb); have n1_ := Aside0.mk (blk_below (g := gb123) (o := .cells #[.int .i64 ((rd_T56 l0 x24_1).f0), .int .i64 ((rd_T56 l0 x24_1).f1), .slice A122_2 ((rd_T56 l0 x24_1).f2).length c122_2, .slice A122_3 ((rd_T56 l0 x24_1).f3).length c122_3] 56 (0, 0)) (by (with_reducible repeat (first | refine blk_drewN ?_ _ | refine blk_drew ?_ | refine blk_alloc ?_ _)); refine blk_far ?_ NB123_125.out _; (with_reducible repeat (first | refine blk_drewN ?_ _ | refine blk_drew ?_ | refine blk_alloc ?_ _)); refine blk_far ?_ NB123_125.out _; (with_reducible repeat (first | refine blk_drewN ?_ _ | refine blk_drew ?_ | refine blk_alloc ?_ _)); refine blk_far ?_ NB123_125.out _; (with_reducible repeat (first | refine blk_drewN ?_ _ | refine blk_drew ?_ | refine blk_alloc ?_ _)); refine blk_far ?_ NB123_125.out _; (with_reducible repeat (first | refine blk_drewN ?_ _ | refine blk_drew ?_ | refine blk_alloc ?_ _)); exact BK123.out) hb); have n2_ := Aside0.mk (blk_below (g := gb125) (o := .cells #[.int .i64 ((rd_T56 l0 x31_2).f0), .int .i64 ((rd_T56 l0 x31_2).f1), .slice A124_2 ((rd_T56 l0 x31_2).f2).length c124_2, .slice A124_3 ((rd_T56 l0 x31_2).f3).length c124_3] 56 (0, 0)) (by (with_reducible repeat (first | refine blk_drewN ?_ _ | refine blk_drew ?_ | refine blk_alloc ?_ _)); refine blk_put (cs := #[.int .i64 ((rd_T56 l0 x31_2).f0), .int .i64 ((rd_T56 l0 x31_2).f1), .slice A124_2 ((rd_T56 l0 x31_2).f2).length c124_2, .slice none 0 0]) ?_ 3 _ rfl; (with_reducible repeat (first | refine blk_drewN ?_ _ | refine blk_drew ?_ | refine blk_alloc ?_ _)); refine blk_put (cs := #[.int .i64 ((rd_T56 l0 x31_2).f0), .int .i64 ((rd_T56 l0 x31_2).f1), .slice none 0 0, .slice none 0 0]) ?_ 2 _ rfl; (with_reducible repeat (first | refine blk_drewN ?_ _ | refine blk_drew ?_ | refine blk_alloc ?_ _)); refine blk_put (cs := #[.int .i64 ((rd_T56 l0 x31_2).f0), .int .i64 0, .slice none 0 0, .slice none 0 0]) ?_ 1 _ rfl; (with_reducible repeat (first | refine blk_drewN ?_ _ | refine blk_drew ?_ | refine blk_alloc ?_ _)); refine blk_put (cs := #[.int .i64 0, .int .i64 0, .slice none 0 0, .slice none 0 0]) ?_ 0 _ rfl; (with_reducible repeat (first | refine blk_drewN ?_ _ | refine blk_drew ?_ | refine blk_alloc ?_ _)); exact BK125.out) hb); have n3_ := Aside0.mk (below_step (by repeat (first | (with_reducible first | exact HB.out | apply below_alloc | apply pw_below_drewN | apply below_drew1 | refine below_set ?_ GE123.out | refine below_set ?_ GE125.out) | exact HB.out)) hb); clear HO_4; clear BK123; clear BK125; clear HB; have HO_4 := n0_; have BK123 := n1_; have BK125 := n2_; have HB := n3_; clear n0_ n1_ n2_ n3_; (try clear hb); (try clear hb2); (try clear hk); (try clear hi); obtain ⟨Ao42, co42, eo42⟩ := Kd.R_slice HO_4.out; subst eo42; have p129 : 0 ≤ (x31_2 : Int) := of_decide_eq_true (by first | (with_reducible assumption) | assumption); have q129 : x31_2 < (x4_2.length : Int) := of_decide_eq_true (by first | (with_reducible assumption) | assumption); obtain ⟨ad129, e129, hx129_0⟩ := Kd.at_int (Kd.R_reads' HO_4.out).2.2 x31_2 p129 q129; cases e129; replace p129 := eq_true p129; replace q129 := eq_true q129; have p36 : 0 ≤ (x31_2 : Int) := of_decide_eq_true (by first | (with_reducible assumption) | assumption); have q36 : (x31_2 : Int) < ((x4_2.length : Int) : Int) := of_decide_eq_true (by first | (with_reducible assumption) | assumption); obtain ⟨go36, co36, eo36, gb36, gl36, cl36, HG36⟩ := Kd.R_form HO_4.out (by omega); (first | cases eo36 | (injection eo36 with ea_ en_ ec_; (first | subst ea_ | (injection ea_ with ea_; subst ea_)); subst ec_; clear en_)); have GB36 := Aside0.mk gb36; have GG36 := Aside0.mk HG36; clear gb36 gl36 HG36; (first | simp only [add_plain] at hx129_0 | skip); obtain ⟨hx36_0, hf36_0⟩ := Kd.R_celln 0 HO_4.out (x31_2 : Int) p36 q36; replace p36 := eq_true p36; replace q36 := eq_true q36; obtain ⟨hy43_, hz43_⟩ := Kd.R_celln 0 HO_4.out (x31_2 : Int) (of_decide_eq_true (by first | (with_reducible assumption) | assumption)) (of_decide_eq_true (by first | (with_reducible assumption) | assumption)); have HP43 := Kd.R_putg HO_4.out (x31_2 : Int) (wrap64 ((rd x4_2 x31_2) + 1))) | ((with_reducible refine gate_store (t := 3) (p := 56) rfl ?_); refine store_event (t := 3) (p := 56) (v := ?vo_w44) (w1 := (w41.setCell ⟨go36, (x31_2 : Int).toNat, none⟩ (.int .i64 (wrap64 ((rd x4_2 x31_2) + 1))))) ?hg ?ho ?hn ?hr ?_; (case ho => rfl); (case hg => rfl); (case hn => rfl); (case hr => first | (go_simp; done) | (go_simp; rfl)); intro w44 hw; have hg : w41.grownBy w44 (some go36) := (by rw [hw]; exact HP43.2); have hp_ : Kd.R (Kd.int .i64) 3 w44 w.heap.size (fun _ => True) (.slice (some ⟨go36, 0, none⟩) x4_2.length co42) y130 := (by rw [hw, Ny130.out]; exact HP43.1); clear HP43; have n0_ := Aside0.mk (hp_); have n1_ := Aside0.mk (blk_grown (g := gb123) (o := .cells #[.int .i64 ((rd_T56 l0 x24_1).f0), .int .i64 ((rd_T56 l0 x24_1).f1), .slice A122_2 ((rd_T56 l0 x24_1).f2).length c122_2, .slice A122_3 ((rd_T56 l0 x24_1).f3).length c122_3] 56 (0, 0)) (by (with_reducible repeat (first | refine blk_drewN ?_ _ | refine blk_drew ?_ | refine blk_alloc ?_ _)); exact BK123.out) hg (Kd.R_ne HO_4.out BK123.out (by decide))); have n2_ := Aside0.mk (blk_grown (g := gb125) (o := .cells #[.int .i64 ((rd_T56 l0 x31_2).f0), .int .i64 ((rd_T56 l0 x31_2).f1), .slice A124_2 ((rd_T56 l0 x31_2).f2).length c124_2, .slice A124_3 ((rd_T56 l0 x31_2).f3).length c124_3] 56 (0, 0)) (by (with_reducible repeat (first | refine blk_drewN ?_ _ | refine blk_drew ?_ | refine blk_alloc ?_ _)); exact BK125.out) hg (Kd.R_ne HO_4.out BK125.out (by decide))); have n3_ := Aside0.mk ((by rw [hw]; exact below_set (HB.out) GB36.out : Below w.heap.size w w44)); clear HO_4; clear BK123; clear BK125; clear HB; have HO_4 := n0_; have BK123 := n1_; have BK125 := n2_; have HB := n3_; clear n0_ n1_ n2_ n3_; clear hg hw hp_))
                  go_roundg k2
                  case measure => have := HK1.out; have := HK2.out; omega
                  case rel => exact ⟨(y130), (wrap64 (x31_2 + 1)), (by first | rfl | (simp; done) | (simp [*]; done)), H', ⟨by have := HK1.out; have := HK2.out; omega⟩, ⟨by (with_reducible repeat (first | apply Kd.R_alloc | apply Kd.R_drewN | apply Kd.R_drew)); exact HO_4.out⟩, ⟨by (with_reducible repeat (first | refine blk_drewN ?_ _ | refine blk_drew ?_ | refine blk_alloc ?_ _)); exact BK123.out⟩, ⟨by repeat (first | (with_reducible first | exact HB.out | apply below_alloc | apply pw_below_drewN | apply below_drew1 | refine below_set ?_ GE123.out | refine below_set ?_ GE125.out) | exact HB.out)⟩⟩
                 ·rw [if_neg c35] at H
                  exact absurd H (by simp)
                ·replace c34 := Bool.eq_false_iff.mpr c34
                 subst c34
                 have H1 : (spec_SerialOrder.l1 k2 l0 x4_2 x24_1 l0 (l0.length : Int) x24_1 l0 (l0.length : Int) (wrap64 (x31_2 + 1)) ((rd_T56 l0 x24_1).f0) ((rd_T56 l0 x24_1).f1) ((rd_T56 l0 x24_1).f2) ((rd_T56 l0 x24_1).f3)) = some (r1, r2) := by rw [if_neg (show ¬ (false = true) by decide)] at H; exact H
                 clear H
                 have H := H1
                 clear H1
                 have H' := Aside0.mk H
                 clear H
                 have p124 : 0 ≤ (x31_2 : Int) := of_decide_eq_true (by first | (with_reducible assumption) | assumption)
                 have q124 : x31_2 < (l0.length : Int) := of_decide_eq_true (by first | (with_reducible assumption) | assumption)
                 obtain ⟨ad124, A124_2, c124_2, A124_3, c124_3, e124, hx124_0, hx124_1, hx124_2, hx124_3, hl124_2, hi124_2, hl124_3, hi124_3⟩ := at_T56 HR0.out x31_2 p124 q124
                 obtain rfl : ad122 = ad124 := (by injection e124)
                 replace hx124_0 := (HB.out.cell (World.block_lt_of_cell? w _ hx124_0)).trans hx124_0
                 replace hx124_1 := (HB.out.cell (World.block_lt_of_cell? w _ hx124_1)).trans hx124_1
                 replace hx124_2 := (HB.out.cell (World.block_lt_of_cell? w _ hx124_2)).trans hx124_2
                 replace hx124_3 := (HB.out.cell (World.block_lt_of_cell? w _ hx124_3)).trans hx124_3
                 have HR124_2 := Aside0.mk hi124_2
                 have HC124_2 := Aside0.mk hl124_2
                 clear hi124_2 hl124_2
                 have HR124_3 := Aside0.mk hi124_3
                 have HC124_3 := Aside0.mk hl124_3
                 clear hi124_3 hl124_3
                 replace p124 := eq_true p124
                 replace q124 := eq_true q124
                 go_wp2_with (first | ((with_reducible refine gate_dst (N := 8) rfl ?_); refine box_event ?hg (N := 8) ?hd (cs := #[.int .i64 0, .int .i64 0, .slice none 0 0, .slice none 0 0]) (t := 56) ?hr ?_; (case hd => rfl); (case hg => rfl); (case hr => first | (go_simp; done) | (go_simp; rfl)); intro gb125 hg w45 hbox hb; have n0_ := Aside0.mk (Kd.R_below (by (with_reducible repeat (first | apply Kd.R_alloc | apply Kd.R_drewN | apply Kd.R_drew)); exact HO_4.out) hb); have n1_ := Aside0.mk (blk_below (g := gb123) (o := .cells #[.int .i64 ((rd_T56 l0 x24_1).f0), .int .i64 ((rd_T56 l0 x24_1).f1), .slice A122_2 ((rd_T56 l0 x24_1).f2).length c122_2, .slice A122_3 ((rd_T56 l0 x24_1).f3).length c122_3] 56 (0, 0)) (by (with_reducible repeat (first | refine blk_drewN ?_ _ | refine blk_drew ?_ | refine blk_alloc ?_ _)); exact BK123.out) hb); have n2_ := Aside0.mk (below_step (by repeat (first | (with_reducible first | exact HB.out | apply below_alloc | apply pw_below_drewN | apply below_drew1 | refine below_set ?_ GE123.out) | exact HB.out)) hb); have n3_ := Aside0.mk (hbox); have n4_ := Aside0.mk ((by rw [hg]; exact (below_size (by repeat (first | (with_reducible first | exact HB.out | apply below_alloc | apply pw_below_drewN | apply below_drew1 | refine below_set ?_ GE123.out) | exact HB.out))) : w.heap.size ≤ gb125)); have n5_ := Aside0.mk ((by rw [hg]; exact (below_size (by repeat (first | (with_reducible first | exact HB.out | apply below_alloc | apply pw_below_drewN | apply below_drew1 | refine below_set ?_ GE123.out) | exact HB.out))) : w.heap.size ≤ gb125)); have n6_ := Aside0.mk ((by rw [hg]; exact Nat.ne_of_lt (blk_lt (g := gb123) (o := .cells #[.int .i64 ((rd_T56 l0 x24_1).f0), .int .i64 ((rd_T56 l0 x24_1).f1), .slice A122_2 ((rd_T56 l0 x24_1).f2).length c122_2, .slice A122_3 ((rd_T56 l0 x24_1).f3).length c122_3] 56 (0, 0)) (by (with_reducible repeat (first | refine blk_drewN ?_ _ | refine blk_drew ?_ | refine blk_alloc ?_ _)); exact BK123.out)) : gb123 ≠ gb125)); have n7_ := Aside0.mk ((by rw [hg]; exact Nat.ne_of_gt (blk_lt (g := gb123) (o := .cells #[.int .i64 ((rd_T56 l0 x24_1).f0), .int .i64 ((rd_T56 l0 x24_1).f1), .slice A122_2 ((rd_T56 l0 x24_1).f2).length c122_2, .slice A122_3 ((rd_T56 l0 x24_1).f3).length c122_3] 56 (0, 0)) (by (with_reducible repeat (first | refine blk_drewN ?_ _ | refine blk_drew ?_ | refine blk_alloc ?_ _)); exact BK123.out)) : gb125 ≠ gb123)); clear HO_4; clear BK123; clear HB; have HO_4 := n0_; have BK123 := n1_; have HB := n2_; have BK125 := n3_; have GW125 := n4_; have GE125 := n5_; have NB123_125 := n6_; have NB125_123 := n7_; clear n0_ n1_ n2_ n3_ n4_ n5_ n6_ n7_; clear hb hbox hg; have hnb46 := NB125_123.out; have hnc46 := NB123_125.out; have hcz47_0 : w45.cell? ⟨gb125, 0, none⟩ = some (.int .i64 0) := (blk_cell BK125.out 0).trans rfl; have hcz47_1 : w45.cell? ⟨gb125, 1, none⟩ = some (.int .i64 0) := (blk_cell BK125.out 1).trans rfl; have hcz47_2 : w45.cell? ⟨gb125, 2, none⟩ = some (.slice none 0 0) := (blk_cell BK125.out 2).trans rfl; have hcz47_3 : w45.cell? ⟨gb125, 3, none⟩ = some (.slice none 0 0) := (blk_cell BK125.out 3).trans rfl; have hfz47_0 := blk_frozen BK125.out 0; have hfz47_1 := blk_frozen BK125.out 1; have hfz47_2 := blk_frozen BK125.out 2; have hfz47_3 := blk_frozen BK125.out 3; have hcz48_0 : w45.cell? ⟨gb123, 0, none⟩ = some (.int .i64 ((rd_T56 l0 x24_1).f0)) := (blk_cell BK123.out 0).trans rfl; have hcz48_1 : w45.cell? ⟨gb123, 1, none⟩ = some (.int .i64 ((rd_T56 l0 x24_1).f1)) := (blk_cell BK123.out 1).trans rfl; have hcz48_2 : w45.cell? ⟨gb123, 2, none⟩ = some (.slice A122_2 ((rd_T56 l0 x24_1).f2).length c122_2) := (blk_cell BK123.out 2).trans rfl; have hcz48_3 : w45.cell? ⟨gb123, 3, none⟩ = some (.slice A122_3 ((rd_T56 l0 x24_1).f3).length c122_3) := (blk_cell BK123.out 3).trans rfl; have hfz48_0 := blk_frozen BK123.out 0; have hfz48_1 := blk_frozen BK123.out 1; have hfz48_2 := blk_frozen BK123.out 2; have hfz48_3 := blk_frozen BK123.out 3) | (go_at_call 28; (with_reducible refine (spec_l15Leads.calls k2 ((rd_T56 l0 x24_1).f0) ((rd_T56 l0 x24_1).f1) _ _ ((rd_T56 l0 x24_1).f2) _ _ ((rd_T56 l0 x24_1).f3) ((rd_T56 l0 x31_2).f0) ((rd_T56 l0 x31_2).f1) _ _ ((rd_T56 l0 x31_2).f2) _ _ ((rd_T56 l0 x31_2).f3) false _ ?side1 ?side2 ?side3 ?side4 ?side5 ?side6 ?side7 ?side8 A33.out).mono ?_); (case side1 => exact Kd.C_below HR122_2.out (by repeat (first | (with_reducible first | exact HB.out | apply below_alloc | apply pw_below_drewN | apply below_drew1 | refine below_set ?_ GE123.out | refine below_set ?_ GE125.out) | exact HB.out))); (case side2 => exact HC122_2.out); (case side3 => exact Kd.C_below HR122_3.out (by repeat (first | (with_reducible first | exact HB.out | apply below_alloc | apply pw_below_drewN | apply below_drew1 | refine below_set ?_ GE123.out | refine below_set ?_ GE125.out) | exact HB.out))); (case side4 => exact HC122_3.out); (case side5 => exact Kd.C_below HR124_2.out (by repeat (first | (with_reducible first | exact HB.out | apply below_alloc | apply pw_below_drewN | apply below_drew1 | refine below_set ?_ GE123.out | refine below_set ?_ GE125.out) | exact HB.out))); (case side6 => exact HC124_2.out); (case side7 => exact Kd.C_below HR124_3.out (by repeat (first | (with_reducible first | exact HB.out | apply below_alloc | apply pw_below_drewN | apply below_drew1 | refine below_set ?_ GE123.out | refine below_set ?_ GE125.out) | exact HB.out))); (case side8 => exact HC124_3.out); rintro e w49 ⟨rfl, hb⟩; have n0_ := Aside0.mk (Kd.R_below (by (with_reducible repeat (first | apply Kd.R_alloc | apply Kd.R_drewN | apply Kd.R_drew)); exact (Kd.R_mono (Kd.R_far (p := ⟨gb125, 3, none⟩) (Kd.R_far (p := ⟨gb125, 2, none⟩) (Kd.R_far (p := ⟨gb125, 1, none⟩) (Kd.R_far (p := ⟨gb125, 0, none⟩) (Kd.R_types HO_4.out BK125.out (by decide)) (fun _ hk => hk.2) (.int .i64 ((rd_T56 l0 x31_2).f0))) (fun _ hk => hk.2) (.int .i64 ((rd_T56 l0 x31_2).f1))) (fun _ hk => hk.2) (.slice A124_2 ((rd_T56 l0 x31_2).f2).length c124_2)) (fun _ hk => hk.2) (.slice A124_3 ((rd_T56 l0 x31_2).f3).length c124_3)) (fun _ h_ => h_.1))) hb); have n1_ := Aside0.mk (blk_below (g := gb123) (o := .cells #[.int .i64 ((rd_T56 l0 x24_1).f0), .int .i64 ((rd_T56 l0 x24_1).f1), .slice A122_2 ((rd_T56 l0 x24_1).f2).length c122_2, .slice A122_3 ((rd_T56 l0 x24_1).f3).length c122_3] 56 (0, 0)) (by (with_reducible repeat (first | refine blk_drewN ?_ _ | refine blk_drew ?_ | refine blk_alloc ?_ _)); refine blk_far ?_ NB123_125.out _; (with_reducible repeat (first | refine blk_drewN ?_ _ | refine blk_drew ?_ | refine blk_alloc ?_ _)); refine blk_far ?_ NB123_125.out _; (with_reducible repeat (first | refine blk_drewN ?_ _ | refine blk_drew ?_ | refine blk_alloc ?_ _)); refine blk_far ?_ NB123_125.out _; (with_reducible repeat (first | refine blk_drewN ?_ _ | refine blk_drew ?_ | refine blk_alloc ?_ _)); refine blk_far ?_ NB123_125.out _; (with_reducible repeat (first | refine blk_drewN ?_ _ | refine blk_drew ?_ | refine blk_alloc ?_ _)); exact BK123.out) hb); have n2_ := Aside0.mk (blk_below (g := gb125) (o := .cells #[.int .i64 ((rd_T56 l0 x31_2).f0), .int .i64 ((rd_T56 l0 x31_2).f1), .slice A124_2 ((rd_T56 l0 x31_2).f2).length c124_2, .slice A124_3 ((rd_T56 l0 x31_2).f3).length c124_3] 56 (0, 0)) (by (with_reducible repeat (first | refine blk_drewN ?_ _ | refine blk_drew ?_ | refine blk_alloc ?_ _)); refine blk_put (cs := #[.int .i64 ((rd_T56 l0 x31_2).f0), .int .i64 ((rd_T56 l0 x31_2).f1), .slice A124_2 ((rd_T56 l0 x31_2).f2).length c124_2, .slice none 0 0]) ?_ 3 _ rfl; (with_reducible repeat (first | refine blk_drewN ?_ _ | refine blk_drew ?_ | refine blk_alloc ?_ _)); refine blk_put (cs := #[.int .i64 ((rd_T56 l0 x31_2).f0), .int .i64 ((rd_T56 l0 x31_2).f1), .slice none 0 0, .slice none 0 0]) ?_ 2 _ rfl; (with_reducible repeat (first | refine blk_drewN ?_ _ | refine blk_drew ?_ | refine blk_alloc ?_ _)); refine blk_put (cs := #[.int .i64 ((rd_T56 l0 x31_2).f0), .int .i64 0, .slice none 0 0, .slice none 0 0]) ?_ 1 _ rfl; (with_reducible repeat (first | refine blk_drewN ?_ _ | refine blk_drew ?_ | refine blk_alloc ?_ _)); refine blk_put (cs := #[.int .i64 0, .int .i64 0, .slice none 0 0, .slice none 0 0]) ?_ 0 _ rfl; (with_reducible repeat (first | refine blk_drewN ?_ _ | refine blk_drew ?_ | refine blk_alloc ?_ _)); exact BK125.out) hb); have n3_ := Aside0.mk (below_step (by repeat (first | (with_reducible first | exact HB.out | apply below_alloc | apply pw_below_drewN | apply below_drew1 | refine below_set ?_ GE123.out | refine below_set ?_ GE125.out) | exact HB.out)) hb); clear HO_4; clear BK123; clear BK125; clear HB; have HO_4 := n0_; have BK123 := n1_; have BK125 := n2_; have HB := n3_; clear n0_ n1_ n2_ n3_; (try clear hb); (try clear hb2); (try clear hk); (try clear hi)))
                 go_roundg k2
                 case measure => have := HK1.out; have := HK2.out; omega
                 case rel => exact ⟨(x4_2), (wrap64 (x31_2 + 1)), (by first | rfl | (simp; done) | (simp [*]; done)), H', ⟨by have := HK1.out; have := HK2.out; omega⟩, ⟨by (with_reducible repeat (first | apply Kd.R_alloc | apply Kd.R_drewN | apply Kd.R_drew)); exact HO_4.out⟩, ⟨by (with_reducible repeat (first | refine blk_drewN ?_ _ | refine blk_drew ?_ | refine blk_alloc ?_ _)); exact BK123.out⟩, ⟨by repeat (first | (with_reducible first | exact HB.out | apply below_alloc | apply pw_below_drewN | apply below_drew1 | refine below_set ?_ GE123.out | refine below_set ?_ GE125.out) | exact HB.out)⟩⟩
             ·rw [if_neg c16] at H
              exact absurd H (by simp)
            ·rw [if_neg c15] at H
             exact absurd H (by simp)
           ·rw [if_neg c14] at H
            have c14b0 : decide (x31_2 < (l0.length : Int)) = false := decide_eq_false c14
            clear c14
            have H' := Aside0.mk H
            clear H
            go_wp2
            go_roundg k2
            case measure => have := HK1.out; have := HK2.out; omega
            case rel => exact ⟨(x4_2), (wrap64 (x24_1 + 1)), (by first | rfl | (simp; done) | (simp [*]; done)), H', ⟨by have := HK1.out; have := HK2.out; omega⟩, ⟨by (with_reducible repeat (first | apply Kd.R_alloc | apply Kd.R_drewN | apply Kd.R_drew)); exact HO_4.out⟩, ⟨by repeat (first | (with_reducible first | exact HB.out | apply below_alloc | apply pw_below_drewN | apply below_drew1 | refine below_set ?_ GE123.out) | exact HB.out)⟩⟩
        ·rw [if_neg c11] at H
         exact absurd H (by simp)
       ·rw [if_neg c10] at H
        exact absurd H (by simp)
      ·rw [if_neg c9] at H
       have c9b0 : decide (x24_1 < (l0.length : Int)) = false := decide_eq_false c9
       clear c9
       obtain ⟨y131, hy131⟩ : ∃ y_ : List Int, y_ = (([] : List Int)) := ⟨_, rfl⟩
       replace H : (if 0 ≤ (l0.length : Int) then (if ((l0.length : Int) : Int).toNat ≤ 281474976710656 then (spec_SerialOrder.l2 k1 l0 x4_1 y131 (List.replicate ((l0.length : Int) : Int).toNat false)) else (none)) else (none)) = some (r1, r2) := by first | (rw [hy131]; with_reducible exact H) | (have H2_ := (Option.bind_some _ _).symm.trans H; rw [hy131]; with_reducible exact H2_) | (have H2_ := (Option.bind_some _ _).symm.trans H; with_reducible exact H2_) | with_reducible exact H | (rw [hy131]; exact H) | exact H
       have Ny131 := Aside0.mk hy131
       clear hy131
       by_cases c50 : 0 ≤ (l0.length : Int)
       ·rw [if_pos c50] at H
        have c50b0 := eq_true c50
        have c50b1 : decide (0 ≤ (l0.length : Int)) = true := decide_eq_true c50
        clear c50
        by_cases c51 : ((l0.length : Int) : Int).toNat ≤ 281474976710656
        ·rw [if_pos c51] at H
         have c51b0 := eq_true c51
         have c51b1 : decide (((l0.length : Int) : Int).toNat ≤ 281474976710656) = true := decide_eq_true c51
         clear c51
         obtain ⟨y134, hy134⟩ : ∃ y_ : List Bool, y_ = (List.replicate ((l0.length : Int) : Int).toNat false) := ⟨_, rfl⟩
         replace H : (spec_SerialOrder.l2 k1 l0 x4_1 y131 y134) = some (r1, r2) := by first | (rw [hy134]; with_reducible exact H) | (have H2_ := (Option.bind_some _ _).symm.trans H; rw [hy134]; with_reducible exact H2_) | (have H2_ := (Option.bind_some _ _).symm.trans H; with_reducible exact H2_) | with_reducible exact H | (rw [hy134]; exact H) | exact H
         have Ny134 := Aside0.mk hy134
         clear hy134
         have H' := Aside0.mk H
         clear H
         go_wp2_with (first | ((with_reducible refine gate_dst (N := 59) rfl ?_); refine Kd.R_lit (Kd.int .i64) _ 3 ?hg (N := 59) ?hd (xs := ([] : List Int)) (inner := []) (ok := fun _ => True) (okp := fun _ => True) ?hr ?hp (fun _ hk => hk) trivial (Below.refl _ _) (Nat.le_refl _) (by simp) ?_; (case hd => rfl); (case hg => rfl); (case hr => first | (go_simp; done) | (go_simp; rfl)); (case hp => exact (Reps.none _ _)); intro v132 w52 ho53 hb hg_ hnew_; clear hg_ hnew_; (first | rw [← Ny131.out] at ho53 | (simp only [Int.reduceToNat] at ho53; rw [← Ny131.out] at ho53)); have n0_ := Aside0.mk (Kd.R_elder' (by (with_reducible repeat (first | apply Kd.R_alloc | apply Kd.R_drewN | apply Kd.R_drew)); exact HO_4.out) (Kd.R_base ho53) hb); have n1_ := Aside0.mk (Kd.R_lower (Kd.R_new' ho53 (Kd.R_lt (by (with_reducible repeat (first | apply Kd.R_alloc | apply Kd.R_drewN | apply Kd.R_drew)); exact HO_4.out))) (below_size (by repeat (first | (with_reducible first | exact HB.out | apply below_alloc | apply pw_below_drewN | apply below_drew1) | exact HB.out)))); have n2_ := Aside0.mk (below_step (by repeat (first | (with_reducible first | exact HB.out | apply below_alloc | apply pw_below_drewN | apply below_drew1) | exact HB.out)) hb); clear HO_4; clear HB; have HO_4 := n0_; have HO133 := n1_; have HB := n2_; clear n0_ n1_ n2_; clear hb ho53) | ((with_reducible refine gate_dst (N := 62) rfl ?_); refine Kd.R_make Kd.bool _ 4 rfl (N := 62) rfl 58 _ _ rfl (l0.length : Int) rfl rfl Try.underlying58 (.bool false) 1 info4 rfl (by decide) (by omega) false (ok := fun _ => True) (okp := fun _ => True) rfl (fun _ hk => hk) trivial (of_decide_eq_true (by first | (with_reducible assumption) | assumption)) (Nat.le_trans (Nat.mul_le_mul_right _ (of_decide_eq_true (by first | (with_reducible assumption) | assumption) : (l0.length : Int).toNat ≤ 281474976710656)) (by omega)) (Below.refl _ _) (Nat.le_refl _) ?_; intro v135 w54 ho55 hb hg_ hnew_; clear hg_ hnew_; (first | rw [← Ny134.out] at ho55 | (simp only [Int.reduceToNat] at ho55; rw [← Ny134.out] at ho55)); have n0_ := Aside0.mk (Kd.R_below (by (with_reducible repeat (first | apply Kd.R_alloc | apply Kd.R_drewN | apply Kd.R_drew)); exact HO_4.out) hb); have n1_ := Aside0.mk (Kd.R_below (by (with_reducible repeat (first | apply Kd.R_alloc | apply Kd.R_drewN | apply Kd.R_drew)); exact HO133.out) hb); have n2_ := Aside0.mk (Kd.R_lower ho55 (below_size (by repeat (first | (with_reducible first | exact HB.out | apply below_alloc | apply pw_below_drewN | apply below_drew1) | exact HB.out)))); have n3_ := Aside0.mk (below_step (by repeat (first | (with_reducible first | exact HB.out | apply below_alloc | apply pw_below_drewN | apply below_drew1) | exact HB.out)) hb); clear HO_4; clear HO133; clear HB; have HO_4 := n0_; have HO133 := n1_; have HO136 := n2_; have HB := n3_; clear n0_ n1_ n2_ n3_; clear hb ho55))
         go_loopg [9] k1 (fun kq v9 w' => ∃ (x4_2 : List Int) (x9_2 : List Int) (x10_2 : List Bool), Aside0 (spec_SerialOrder.l2 kq l0 x4_2 x9_2 x10_2 = some (r1, r2)) ∧ Aside0 (kq ≤ k1) ∧ Aside0 (Kd.R (Kd.int .i64) 3 w' w.heap.size (fun k_ => some k_ ≠ (v9 : Value).ownBlock) v120 x4_2) ∧ Aside0 (Kd.R (Kd.int .i64) 3 w' w.heap.size (fun k_ => some k_ ≠ (v120 : Value).ownBlock) v9 x9_2) ∧ Aside0 (Kd.R Kd.bool 4 w' w.heap.size (fun _ => True) v135 x10_2) ∧ Aside0 (Below w.heap.size w w'))
         case atStart => exact ⟨(x4_1), (y131), (y134), H', ⟨Nat.le_refl _⟩, ⟨by (with_reducible repeat (first | apply Kd.R_alloc | apply Kd.R_drewN | apply Kd.R_drew)); exact Kd.R_mono HO_4.out (fun _ hk => hk.2)⟩, ⟨by (with_reducible repeat (first | apply Kd.R_alloc | apply Kd.R_drewN | apply Kd.R_drew)); exact Kd.R_mono HO133.out (fun _ hk => hk.2)⟩, ⟨by (with_reducible repeat (first | apply Kd.R_alloc | apply Kd.R_drewN | apply Kd.R_drew)); exact HO136.out⟩, ⟨by repeat (first | (with_reducible first | exact HB.out | apply below_alloc | apply pw_below_drewN | apply below_drew1) | exact HB.out)⟩⟩
         case round =>
          clear H'
          try clear c1
          try clear p1
          try clear q1
          try clear hx1
          try clear c2
          try clear p2
          try clear q2
          try clear hx2
          try clear hf2
          try clear c3
          try clear p3
          try clear q3
          try clear hx3
          try clear hf3
          try clear c4
          try clear c4b0
          try clear c4b1
          try clear c5
          try clear c5b0
          try clear c5b1
          try clear c6
          try clear p6
          try clear c9
          try clear c9b0
          try clear c10
          try clear c10b0
          try clear c11
          try clear c11b0
          try clear c12
          try clear p12
          try clear q12
          try clear hx12
          try clear c14
          try clear c14b0
          try clear c15
          try clear c15b0
          try clear c16
          try clear c16b0
          try clear c17
          try clear c17b0
          try clear c17b1
          try clear c19
          try clear c21
          try clear c21b0
          try clear c22
          try clear c22b0
          try clear p23
          try clear q23
          try clear hx23
          try clear hf23
          try clear c25
          try clear c27
          try clear c34
          try clear c35
          try clear c35b0
          try clear p36
          try clear q36
          try clear hx36
          try clear hf36
          try clear c38
          try clear c46
          try clear c50
          try clear c50b0
          try clear c50b1
          try clear c51
          try clear c51b0
          try clear c51b1
          try clear hcz13_0
          try clear hcz13_1
          try clear hcz13_2
          try clear hcz13_3
          try clear hcz20_0
          try clear hcz20_1
          try clear hcz20_2
          try clear hcz20_3
          try clear hcz26_0
          try clear hcz26_1
          try clear hcz26_2
          try clear hcz26_3
          try clear hcz28_0
          try clear hcz28_1
          try clear hcz28_2
          try clear hcz28_3
          try clear hcz29_0
          try clear hcz29_1
          try clear hcz29_2
          try clear hcz29_3
          try clear hcz39_0
          try clear hcz39_1
          try clear hcz39_2
          try clear hcz39_3
          try clear hcz40_0
          try clear hcz40_1
          try clear hcz40_2
          try clear hcz40_3
          try clear hcz47_0
          try clear hcz47_1
          try clear hcz47_2
          try clear hcz47_3
          try clear hcz48_0
          try clear hcz48_1
          try clear hcz48_2
          try clear hcz48_3
          try clear hfz13_0
          try clear hfz13_1
          try clear hfz13_2
          try clear hfz13_3
          try clear hfz20_0
          try clear hfz20_1
          try clear hfz20_2
          try clear hfz20_3
          try clear hfz26_0
          try clear hfz26_1
          try clear hfz26_2
          try clear hfz26_3
          try clear hfz28_0
          try clear hfz28_1
          try clear hfz28_2
          try clear hfz28_3
          try clear hfz29_0
          try clear hfz29_1
          try clear hfz29_2
          try clear hfz29_3
          try clear hfz39_0
          try clear hfz39_1
          try clear hfz39_2
          try clear hfz39_3
          try clear hfz40_0
          try clear hfz40_1
          try clear hfz40_2
          try clear hfz40_3
          try clear hfz47_0
          try clear hfz47_1
          try clear hfz47_2
          try clear hfz47_3
          try clear hfz48_0
          try clear hfz48_1
          try clear hfz48_2
          try clear hfz48_3
          try clear hx122_0
          try clear hx122_1
          try clear hx122_2
          try clear hx122_3
          try clear hx124_0
          try clear hx124_1
          try clear hx124_2
          try clear hx124_3
          try clear hx126_0
          try clear hx129_0
          try clear hx23_0
          try clear hx36_0
          try clear p1
          try clear p12
          try clear p122
          try clear p124
          try clear p126
          try clear p129
          try clear p2
          try clear p23
          try clear p36
          try clear q1
          try clear q12
          try clear q122
          try clear q124
          try clear q126
          try clear q129
          try clear q23
          try clear q36
          obtain ⟨x4_2, x9_2, x10_2, HA, HK2, HO_4, HO_9, HO_10, HB⟩ := hrel
          cases gk with
          | zero => exact absurd HA.out (by simp [spec_SerialOrder.l2])
          | succ k2 =>
           have H := HA.out
           clear HA
           simp only [spec_SerialOrder.l2] at H
           by_cases c56 : (x9_2.length : Int) < (l0.length : Int)
           ·rw [if_pos c56] at H
            have c56b0 : decide ((x9_2.length : Int) < (l0.length : Int)) = true := decide_eq_true c56
            have c56b1 : decide (x9_2.length < l0.length) = true := decide_eq_true (Int.ofNat_lt.mp c56)
            clear c56
            have HC57 := Aside0.mk H
            clear H
            obtain ⟨Ao58, co58, eo58⟩ := Kd.R_slice HO_9.out
            subst eo58
            go_upto_block 6 with (fail)
            go_cut [11] (fun v11 wc => ∃ (kq : Nat) (x11_56 : Int), v11 = .int .i64 x11_56 ∧ Aside0 (spec_SerialOrder.j4 kq l0 x4_2 x9_2 x10_2 x11_56 = some (r1, r2)) ∧ Aside0 (kq ≤ k2) ∧ Aside0 (Kd.R (Kd.int .i64) 3 wc w.heap.size (fun k_ => some k_ ≠ ((.slice Ao58 x9_2.length co58) : Value).ownBlock) v120 x4_2) ∧ Aside0 (Kd.R (Kd.int .i64) 3 wc w.heap.size (fun k_ => some k_ ≠ (v120 : Value).ownBlock) (.slice Ao58 x9_2.length co58) x9_2) ∧ Aside0 (Kd.R Kd.bool 4 wc w.heap.size (fun _ => True) v135 x10_2) ∧ Aside0 (Below w.heap.size w wc))
            case first =>
             have H := HC57.out
             clear HC57
             have H' := Aside0.mk H
             clear H
             go_wp2
             go_loopg [11, 70] k2 (fun kq v11 v70 w' => ∃ (x11_3 : Int) (x70_3 : Int), v11 = .int .i64 x11_3 ∧ v70 = .int .i64 x70_3 ∧ Aside0 (spec_SerialOrder.l3 kq l0 x4_2 x9_2 x10_2 x11_3 (l0.length : Int) x70_3 = some (r1, r2)) ∧ Aside0 (kq ≤ k2) ∧ Aside0 (Kd.R (Kd.int .i64) 3 w' w.heap.size (fun k_ => some k_ ≠ ((.slice Ao58 x9_2.length co58) : Value).ownBlock) v120 x4_2) ∧ Aside0 (Kd.R (Kd.int .i64) 3 w' w.heap.size (fun k_ => some k_ ≠ (v120 : Value).ownBlock) (.slice Ao58 x9_2.length co58) x9_2) ∧ Aside0 (Kd.R Kd.bool 4 w' w.heap.size (fun _ => True) v135 x10_2) ∧ Aside0 (Below w.heap.size w w'))
             case atStart => exact ⟨((-1)), (0), (by first | rfl | (simp; done) | (simp [*]; done)), (by first | rfl | (simp; done) | (simp [*]; done)), H', ⟨Nat.le_refl _⟩, ⟨by (with_reducible repeat (first | apply Kd.R_alloc | apply Kd.R_drewN | apply Kd.R_drew)); exact HO_4.out⟩, ⟨by (with_reducible repeat (first | apply Kd.R_alloc | apply Kd.R_drewN | apply Kd.R_drew)); exact HO_9.out⟩, ⟨by (with_reducible repeat (first | apply Kd.R_alloc | apply Kd.R_drewN | apply Kd.R_drew)); exact HO_10.out⟩, ⟨by repeat (first | (with_reducible first | exact HB.out | apply below_alloc | apply pw_below_drewN | apply below_drew1) | exact HB.out)⟩⟩
             case round =>
              clear H'
              try clear c1
              try clear p1
              try clear q1
              try clear hx1
              try clear c2
              try clear p2
              try clear q2
              try clear hx2
              try clear hf2
              try clear c3
              try clear p3
              try clear q3
              try clear hx3
              try clear hf3
              try clear c4
              try clear c4b0
              try clear c4b1
              try clear c5
              try clear c5b0
              try clear c5b1
              try clear c6
              try clear p6
              try clear c9
              try clear c9b0
              try clear c10
              try clear c10b0
              try clear c11
              try clear c11b0
              try clear c12
              try clear p12
              try clear q12
              try clear hx12
              try clear c14
              try clear c14b0
              try clear c15
              try clear c15b0
              try clear c16
              try clear c16b0
              try clear c17
              try clear c17b0
              try clear c17b1
              try clear c19
              try clear c21
              try clear c21b0
              try clear c22
              try clear c22b0
              try clear p23
              try clear q23
              try clear hx23
              try clear hf23
              try clear c25
              try clear c27
              try clear c34
              try clear c35
              try clear c35b0
              try clear p36
              try clear q36
              try clear hx36
              try clear hf36
              try clear c38
              try clear c46
              try clear c50
              try clear c50b0
              try clear c50b1
              try clear c51
              try clear c51b0
              try clear c51b1
              try clear c56
              try clear c56b0
              try clear c56b1
              try clear hcz13_0
              try clear hcz13_1
              try clear hcz13_2
              try clear hcz13_3
              try clear hcz20_0
              try clear hcz20_1
              try clear hcz20_2
              try clear hcz20_3
              try clear hcz26_0
              try clear hcz26_1
              try clear hcz26_2
              try clear hcz26_3
              try clear hcz28_0
              try clear hcz28_1
              try clear hcz28_2
              try clear hcz28_3
              try clear hcz29_0
              try clear hcz29_1
              try clear hcz29_2
              try clear hcz29_3
              try clear hcz39_0
              try clear hcz39_1
              try clear hcz39_2
              try clear hcz39_3
              try clear hcz40_0
              try clear hcz40_1
              try clear hcz40_2
              try clear hcz40_3
              try clear hcz47_0
              try clear hcz47_1
              try clear hcz47_2
              try clear hcz47_3
              try clear hcz48_0
              try clear hcz48_1
              try clear hcz48_2
              try clear hcz48_3
              try clear hfz13_0
              try clear hfz13_1
              try clear hfz13_2
              try clear hfz13_3
              try clear hfz20_0
              try clear hfz20_1
              try clear hfz20_2
              try clear hfz20_3
              try clear hfz26_0
              try clear hfz26_1
              try clear hfz26_2
              try clear hfz26_3
              try clear hfz28_0
              try clear hfz28_1
              try clear hfz28_2
              try clear hfz28_3
              try clear hfz29_0
              try clear hfz29_1
              try clear hfz29_2
              try clear hfz29_3
              try clear hfz39_0
              try clear hfz39_1
              try clear hfz39_2
              try clear hfz39_3
              try clear hfz40_0
              try clear hfz40_1
              try clear hfz40_2
              try clear hfz40_3
              try clear hfz47_0
              try clear hfz47_1
              try clear hfz47_2
              try clear hfz47_3
              try clear hfz48_0
              try clear hfz48_1
              try clear hfz48_2
              try clear hfz48_3
              try clear hx122_0
              try clear hx122_1
              try clear hx122_2
              try clear hx122_3
              try clear hx124_0
              try clear hx124_1
              try clear hx124_2
              try clear hx124_3
              try clear hx126_0
              try clear hx129_0
              try clear hx23_0
              try clear hx36_0
              try clear p1
              try clear p12
              try clear p122
              try clear p124
              try clear p126
              try clear p129
              try clear p2
              try clear p23
              try clear p3
              try clear p36
              try clear p6
              try clear q1
              try clear q12
              try clear q122
              try clear q124
              try clear q126
              try clear q129
              try clear q2
              try clear q23
              try clear q3
              try clear q36
              obtain ⟨x11_3, x70_3, rfl, rfl, HA, HK3, HO_4, HO_9, HO_10, HB⟩ := hrel
              cases gk with
              | zero => exact absurd HA.out (by simp [spec_SerialOrder.l3])
              | succ k3 =>
               have H := HA.out
               clear HA
               simp only [spec_SerialOrder.l3] at H
               by_cases c59 : x70_3 < (l0.length : Int)
               ·rw [if_pos c59] at H
                have c59b0 : decide (x70_3 < (l0.length : Int)) = true := decide_eq_true c59
                clear c59
                (first | rw [c59b0] | (simp only [i64_w, i32_w]; rw [c59b0]) | skip)
                by_cases c60 : 0 ≤ x70_3
                ·rw [if_pos c60] at H
                 have c60b0 : decide (0 ≤ x70_3) = true := decide_eq_true c60
                 clear c60
                 by_cases c61 : x70_3 < (x10_2.length : Int)
                 ·rw [if_pos c61] at H
                  have c61b0 : decide (x70_3 < (x10_2.length : Int)) = true := decide_eq_true c61
                  clear c61
                  obtain ⟨bq62, hbq62⟩ : ∃ b_ : Bool, b_ = (rdOf false x10_2 x70_3) := ⟨_, rfl⟩
                  replace H : (if bq62 = true then (spec_SerialOrder.l3 k3 l0 x4_2 x9_2 x10_2 x11_3 (l0.length : Int) (wrap64 (x70_3 + 1))) else (if x70_3 < (x4_2.length : Int) then (if (rd x4_2 x70_3) = 0 then (spec_SerialOrder.j4 k3 l0 x4_2 x9_2 x10_2 x70_3) else (spec_SerialOrder.l3 k3 l0 x4_2 x9_2 x10_2 x11_3 (l0.length : Int) (wrap64 (x70_3 + 1)))) else (none))) = some (r1, r2) := by rw [← hbq62] at H; exact H
                  have Nbq62 := Aside0.mk hbq62
                  clear hbq62
                  by_cases c63 : bq62 = true
                  ·subst c63
                   have H1 : (spec_SerialOrder.l3 k3 l0 x4_2 x9_2 x10_2 x11_3 (l0.length : Int) (wrap64 (x70_3 + 1))) = some (r1, r2) := by rw [if_pos rfl] at H; exact H
                   clear H
                   have H := H1
                   clear H1
                   have H' := Aside0.mk H
                   clear H
                   obtain ⟨Ao64, co64, eo64⟩ := Kd.R_slice HO_10.out
                   subst eo64
                   have p137 : 0 ≤ (x70_3 : Int) := of_decide_eq_true (by first | (with_reducible assumption) | assumption)
                   have q137 : x70_3 < (x10_2.length : Int) := of_decide_eq_true (by first | (with_reducible assumption) | assumption)
                   obtain ⟨ad137, e137, hx137_0⟩ := Kd.at_bool (Kd.R_reads' HO_10.out).2.2 x70_3 p137 q137
                   (try rw [← Nbq62.out] at hx137_0)
                   cases e137
                   replace p137 := eq_true p137
                   replace q137 := eq_true q137
                   go_wp2
                   go_roundg k3
                   case measure => have := HK1.out; have := HK2.out; have := HK3.out; omega
                   case rel => exact ⟨(x11_3), (wrap64 (x70_3 + 1)), (by first | rfl | (simp; done) | (simp [*]; done)), (by first | rfl | (simp; done) | (simp [*]; done)), H', ⟨by have := HK1.out; have := HK2.out; have := HK3.out; omega⟩, ⟨by (with_reducible repeat (first | apply Kd.R_alloc | apply Kd.R_drewN | apply Kd.R_drew)); exact HO_4.out⟩, ⟨by (with_reducible repeat (first | apply Kd.R_alloc | apply Kd.R_drewN | apply Kd.R_drew)); exact HO_9.out⟩, ⟨by (with_reducible repeat (first | apply Kd.R_alloc | apply Kd.R_drewN | apply Kd.R_drew)); exact HO_10.out⟩, ⟨by repeat (first | (with_reducible first | exact HB.out | apply below_alloc | apply pw_below_drewN | apply below_drew1) | exact HB.out)⟩⟩
                  ·replace c63 := Bool.eq_false_iff.mpr c63
                   subst c63
                   have H1 : (if x70_3 < (x4_2.length : Int) then (if (rd x4_2 x70_3) = 0 then (spec_SerialOrder.j4 k3 l0 x4_2 x9_2 x10_2 x70_3) else (spec_SerialOrder.l3 k3 l0 x4_2 x9_2 x10_2 x11_3 (l0.length : Int) (wrap64 (x70_3 + 1)))) else (none)) = some (r1, r2) := by rw [if_neg (show ¬ (false = true) by decide)] at H; exact H
                   clear H
                   have H := H1
                   clear H1
                   by_cases c65 : x70_3 < (x4_2.length : Int)
                   ·rw [if_pos c65] at H
                    have c65b0 : decide (x70_3 < (x4_2.length : Int)) = true := decide_eq_true c65
                    clear c65
                    by_cases c66 : (rd x4_2 x70_3) = 0
                    ·rw [if_pos c66] at H
                     have c66b0 : ((rd x4_2 x70_3) == 0) = true := beq_iff_eq.mpr c66
                     have c66b1 : ((rd x4_2 x70_3) != 0) = false := bne_eq_false_iff_eq.mpr c66
                     clear c66
                     have H' := Aside0.mk H
                     clear H
                     obtain ⟨Ao67, co67, eo67⟩ := Kd.R_slice HO_10.out
                     subst eo67
                     have p137 : 0 ≤ (x70_3 : Int) := of_decide_eq_true (by first | (with_reducible assumption) | assumption)
                     have q137 : x70_3 < (x10_2.length : Int) := of_decide_eq_true (by first | (with_reducible assumption) | assumption)
                     obtain ⟨ad137, e137, hx137_0⟩ := Kd.at_bool (Kd.R_reads' HO_10.out).2.2 x70_3 p137 q137
                     (try rw [← Nbq62.out] at hx137_0)
                     cases e137
                     replace p137 := eq_true p137
                     replace q137 := eq_true q137
                     obtain ⟨Ao68, co68, eo68⟩ := Kd.R_slice HO_4.out
                     subst eo68
                     have p138 : 0 ≤ (x70_3 : Int) := of_decide_eq_true (by first | (with_reducible assumption) | assumption)
                     have q138 : x70_3 < (x4_2.length : Int) := of_decide_eq_true (by first | (with_reducible assumption) | assumption)
                     obtain ⟨ad138, e138, hx138_0⟩ := Kd.at_int (Kd.R_reads' HO_4.out).2.2 x70_3 p138 q138
                     cases e138
                     replace p138 := eq_true p138
                     replace q138 := eq_true q138
                     go_wp2
                     go_meet
                     case rel => exact ⟨_, (x70_3), (by first | rfl | (simp; done) | (simp [*]; done)), H', ⟨by have := HK1.out; have := HK2.out; have := HK3.out; first | omega | exact Nat.le_refl _⟩, ⟨by (with_reducible repeat (first | apply Kd.R_alloc | apply Kd.R_drewN | apply Kd.R_drew)); exact HO_4.out⟩, ⟨by (with_reducible repeat (first | apply Kd.R_alloc | apply Kd.R_drewN | apply Kd.R_drew)); exact HO_9.out⟩, ⟨by (with_reducible repeat (first | apply Kd.R_alloc | apply Kd.R_drewN | apply Kd.R_drew)); exact HO_10.out⟩, ⟨by repeat (first | (with_reducible first | exact HB.out | apply below_alloc | apply pw_below_drewN | apply below_drew1) | exact HB.out)⟩⟩
                    ·rw [if_neg c66] at H
                     have c66b0 : ((rd x4_2 x70_3) == 0) = false := beq_eq_false_iff_ne.mpr c66
                     have c66b1 : ((rd x4_2 x70_3) != 0) = true := bne_iff_ne.mpr c66
                     have H' := Aside0.mk H
                     clear H
                     obtain ⟨Ao69, co69, eo69⟩ := Kd.R_slice HO_10.out
                     subst eo69
                     have p137 : 0 ≤ (x70_3 : Int) := of_decide_eq_true (by first | (with_reducible assumption) | assumption)
                     have q137 : x70_3 < (x10_2.length : Int) := of_decide_eq_true (by first | (with_reducible assumption) | assumption)
                     obtain ⟨ad137, e137, hx137_0⟩ := Kd.at_bool (Kd.R_reads' HO_10.out).2.2 x70_3 p137 q137
                     (try rw [← Nbq62.out] at hx137_0)
                     cases e137
                     replace p137 := eq_true p137
                     replace q137 := eq_true q137
                     obtain ⟨Ao70, co70, eo70⟩ := Kd.R_slice HO_4.out
                     subst eo70
                     have p138 : 0 ≤ (x70_3 : Int) := of_decide_eq_true (by first | (with_reducible assumption) | assumption)
                     have q138 : x70_3 < (x4_2.length : Int) := of_decide_eq_true (by first | (with_reducible assumption) | assumption)
                     obtain ⟨ad138, e138, hx138_0⟩ := Kd.at_int (Kd.R_reads' HO_4.out).2.2 x70_3 p138 q138
                     cases e138
                     replace p138 := eq_true p138
                     replace q138 := eq_true q138
                     go_wp2
                     go_roundg k3
                     case measure => have := HK1.out; have := HK2.out; have := HK3.out; omega
                     case rel => exact ⟨(x11_3), (wrap64 (x70_3 + 1)), (by first | rfl | (simp; done) | (simp [*]; done)), (by first | rfl | (simp; done) | (simp [*]; done)), H', ⟨by have := HK1.out; have := HK2.out; have := HK3.out; omega⟩, ⟨by (with_reducible repeat (first | apply Kd.R_alloc | apply Kd.R_drewN | apply Kd.R_drew)); exact HO_4.out⟩, ⟨by (with_reducible repeat (first | apply Kd.R_alloc | apply Kd.R_drewN | apply Kd.R_drew)); exact HO_9.out⟩, ⟨by (with_reducible repeat (first | apply Kd.R_alloc | apply Kd.R_drewN | apply Kd.R_drew)); exact HO_10.out⟩, ⟨by repeat (first | (with_reducible first | exact HB.out | apply below_alloc | apply pw_below_drewN | apply below_drew1) | exact HB.out)⟩⟩
                   ·rw [if_neg c65] at H
                    exact absurd H (by simp)
                 ·rw [if_neg c61] at H
                  exact absurd H (by simp)
                ·rw [if_neg c60] at H
                 exact absurd H (by simp)
               ·rw [if_neg c59] at H
                have c59b0 : decide (x70_3 < (l0.length : Int)) = false := decide_eq_false c59
                clear c59
                (first | rw [c59b0] | (simp only [i64_w, i32_w]; rw [c59b0]) | skip)
                have H' := Aside0.mk H
                clear H
                go_wp2
                go_meet
                case rel => exact ⟨_, (x11_3), (by first | rfl | (simp; done) | (simp [*]; done)), H', ⟨by have := HK1.out; have := HK2.out; have := HK3.out; first | omega | exact Nat.le_refl _⟩, ⟨by (with_reducible repeat (first | apply Kd.R_alloc | apply Kd.R_drewN | apply Kd.R_drew)); exact HO_4.out⟩, ⟨by (with_reducible repeat (first | apply Kd.R_alloc | apply Kd.R_drewN | apply Kd.R_drew)); exact HO_9.out⟩, ⟨by (with_reducible repeat (first | apply Kd.R_alloc | apply Kd.R_drewN | apply Kd.R_drew)); exact HO_10.out⟩, ⟨by repeat (first | (with_reducible first | exact HB.out | apply below_alloc | apply pw_below_drewN | apply below_drew1) | exact HB.out)⟩⟩
            case rest =>
             clear HC57
             try clear c1
             try clear p1
             try clear q1
             try clear hx1
             try clear c2
             try clear p2
             try clear q2
             try clear hx2
             try clear hf2
             try clear c3
             try clear p3
             try clear q3
             try clear hx3
             try clear hf3
             try clear c4
             try clear c4b0
             try clear c4b1
             try clear c5
             try clear c5b0
             try clear c5b1
             try clear c6
             try clear p6
             try clear q6
             try clear c9
             try clear c9b0
             try clear c10
             try clear c10b0
             try clear c11
             try clear c11b0
             try clear c12
             try clear p12
             try clear q12
             try clear hx12
             try clear p13
             try clear q13
             try clear hx13
             try clear c14
             try clear c14b0
             try clear c15
             try clear c15b0
             try clear c16
             try clear c16b0
             try clear c17
             try clear c17b0
             try clear c17b1
             try clear c19
             try clear c21
             try clear c21b0
             try clear c22
             try clear c22b0
             try clear p23
             try clear q23
             try clear hx23
             try clear hf23
             try clear c25
             try clear c27
             try clear c34
             try clear c35
             try clear c35b0
             try clear p36
             try clear q36
             try clear hx36
             try clear hf36
             try clear c38
             try clear c46
             try clear c50
             try clear c50b0
             try clear c50b1
             try clear c51
             try clear c51b0
             try clear c51b1
             try clear c56
             try clear c56b0
             try clear c56b1
             try clear c59
             try clear c59b0
             try clear c60
             try clear c60b0
             try clear c61
             try clear c61b0
             try clear q62
             try clear c63
             try clear p64
             try clear c65
             try clear c65b0
             try clear c66
             try clear c66b0
             try clear c66b1
             try clear hcz13_0
             try clear hcz13_1
             try clear hcz13_2
             try clear hcz13_3
             try clear hcz20_0
             try clear hcz20_1
             try clear hcz20_2
             try clear hcz20_3
             try clear hcz26_0
             try clear hcz26_1
             try clear hcz26_2
             try clear hcz26_3
             try clear hcz28_0
             try clear hcz28_1
             try clear hcz28_2
             try clear hcz28_3
             try clear hcz29_0
             try clear hcz29_1
             try clear hcz29_2
             try clear hcz29_3
             try clear hcz39_0
             try clear hcz39_1
             try clear hcz39_2
             try clear hcz39_3
             try clear hcz40_0
             try clear hcz40_1
             try clear hcz40_2
             try clear hcz40_3
             try clear hcz47_0
             try clear hcz47_1
             try clear hcz47_2
             try clear hcz47_3
             try clear hcz48_0
             try clear hcz48_1
             try clear hcz48_2
             try clear hcz48_3
             try clear hfz13_0
             try clear hfz13_1
             try clear hfz13_2
             try clear hfz13_3
             try clear hfz20_0
             try clear hfz20_1
             try clear hfz20_2
             try clear hfz20_3
             try clear hfz26_0
             try clear hfz26_1
             try clear hfz26_2
             try clear hfz26_3
             try clear hfz28_0
             try clear hfz28_1
             try clear hfz28_2
             try clear hfz28_3
             try clear hfz29_0
             try clear hfz29_1
             try clear hfz29_2
             try clear hfz29_3
             try clear hfz39_0
             try clear hfz39_1
             try clear hfz39_2
             try clear hfz39_3
             try clear hfz40_0
             try clear hfz40_1
             try clear hfz40_2
             try clear hfz40_3
             try clear hfz47_0
             try clear hfz47_1
             try clear hfz47_2
             try clear hfz47_3
             try clear hfz48_0
             try clear hfz48_1
             try clear hfz48_2
             try clear hfz48_3
             try clear hx122_0
             try clear hx122_1
             try clear hx122_2
             try clear hx122_3
             try clear hx124_0
             try clear hx124_1
             try clear hx124_2
             try clear hx124_3
             try clear hx126_0
             try clear hx129_0
             try clear hx137_0
             try clear hx138_0
             try clear hx23_0
             try clear hx36_0
             try clear p1
             try clear p12
             try clear p122
             try clear p124
             try clear p126
             try clear p129
             try clear p137
             try clear p138
             try clear p2
             try clear p23
             try clear p3
             try clear p36
             try clear p6
             try clear q1
             try clear q12
             try clear q122
             try clear q124
             try clear q126
             try clear q129
             try clear q137
             try clear q138
             try clear q2
             try clear q23
             try clear q3
             try clear q36
             obtain ⟨kq, x11_56, rfl, HA, HJ56, HO_4, HO_9, HO_10, HB⟩ := hcut
             cases kq with
             | zero => exact absurd HA.out (by simp [spec_SerialOrder.j4])
             | succ kj56 =>
              have H := HA.out
              clear HA
              simp only [spec_SerialOrder.j4] at H
              by_cases c71 : x11_56 < 0
              ·rw [if_pos c71] at H
               have c71b0 : decide (x11_56 < 0) = true := decide_eq_true c71
               clear c71
               obtain ⟨y139, hy139⟩ : ∃ y_ : List Int, y_ = (([] : List Int)) := ⟨_, rfl⟩
               replace H : (some (y139, 21)) = some (r1, r2) := by first | (rw [hy139]; with_reducible exact H) | (have H2_ := (Option.bind_some _ _).symm.trans H; rw [hy139]; with_reducible exact H2_) | (have H2_ := (Option.bind_some _ _).symm.trans H; with_reducible exact H2_) | with_reducible exact H | (rw [hy139]; exact H) | exact H
               have Ny139 := Aside0.mk hy139
               clear hy139
               simp only [Option.some.injEq, Prod.mk.injEq] at H
               obtain ⟨rfl, rfl⟩ := H
               go_wp2_with (first | ((with_reducible refine gate_dst (N := 89) rfl ?_); refine Kd.R_lit (Kd.int .i64) _ 3 ?hg (N := 89) ?hd (xs := ([] : List Int)) (inner := []) (ok := fun _ => True) (okp := fun _ => True) ?hr ?hp (fun _ hk => hk) trivial (Below.refl _ _) (Nat.le_refl _) (by simp) ?_; (case hd => rfl); (case hg => rfl); (case hr => first | (go_simp; done) | (go_simp; rfl)); (case hp => exact (Reps.none _ _)); intro v140 w72 ho73 hb hg_ hnew_; clear hg_ hnew_; (first | rw [← Ny139.out] at ho73 | (simp only [Int.reduceToNat] at ho73; rw [← Ny139.out] at ho73)); have n0_ := Aside0.mk (Kd.R_elder' (by (with_reducible repeat (first | apply Kd.R_alloc | apply Kd.R_drewN | apply Kd.R_drew)); exact HO_4.out) (Kd.R_base ho73) hb); have n1_ := Aside0.mk (Kd.R_elder' (by (with_reducible repeat (first | apply Kd.R_alloc | apply Kd.R_drewN | apply Kd.R_drew)); exact HO_9.out) (Kd.R_base ho73) hb); have n2_ := Aside0.mk (Kd.R_below (by (with_reducible repeat (first | apply Kd.R_alloc | apply Kd.R_drewN | apply Kd.R_drew)); exact HO_10.out) hb); have n3_ := Aside0.mk (Kd.R_lower (Kd.R_new' (Kd.R_new' ho73 (Kd.R_lt (by (with_reducible repeat (first | apply Kd.R_alloc | apply Kd.R_drewN | apply Kd.R_drew)); exact HO_4.out))) (Kd.R_lt (by (with_reducible repeat (first | apply Kd.R_alloc | apply Kd.R_drewN | apply Kd.R_drew)); exact HO_9.out))) (below_size (by repeat (first | (with_reducible first | exact HB.out | apply below_alloc | apply pw_below_drewN | apply below_drew1) | exact HB.out)))); have n4_ := Aside0.mk (below_step (by repeat (first | (with_reducible first | exact HB.out | apply below_alloc | apply pw_below_drewN | apply below_drew1) | exact HB.out)) hb); clear HO_4; clear HO_9; clear HO_10; clear HB; have HO_4 := n0_; have HO_9 := n1_; have HO_10 := n2_; have HO141 := n3_; have HB := n4_; clear n0_ n1_ n2_ n3_ n4_; clear hb ho73))
               go_ret2
               exact ⟨_, by first | rfl | (simp [errW_none, errW_some] <;> rfl) | (simp [*, errW_none, errW_some] <;> rfl), by (with_reducible repeat (first | apply Kd.R_alloc | apply Kd.R_drewN | apply Kd.R_drew)); exact Kd.R_mono HO141.out (fun _ hk => trivial), by repeat (first | (with_reducible first | exact HB.out | apply below_alloc | apply pw_below_drewN | apply below_drew1) | exact HB.out)⟩
              ·rw [if_neg c71] at H
               have c71b0 : decide (x11_56 < 0) = false := decide_eq_false c71
               clear c71
               by_cases c74 : 0 ≤ x11_56
               ·rw [if_pos c74] at H
                have c74b0 : decide (0 ≤ x11_56) = true := decide_eq_true c74
                clear c74
                by_cases c75 : x11_56 < (x10_2.length : Int)
                ·rw [if_pos c75] at H
                 have c75b0 : decide (x11_56 < (x10_2.length : Int)) = true := decide_eq_true c75
                 clear c75
                 obtain ⟨y142, hy142⟩ : ∃ y_ : List Bool, y_ = (x10_2.set (x11_56 : Int).toNat true) := ⟨_, rfl⟩
                 replace H : (if x9_2.length < 17592186044416 then (spec_SerialOrder.l4 kj56 l0 x4_2 (x9_2 ++ [x11_56]) y142 x11_56 l0 (l0.length : Int) 0) else (none)) = some (r1, r2) := by first | (rw [hy142]; with_reducible exact H) | (have H2_ := (Option.bind_some _ _).symm.trans H; rw [hy142]; with_reducible exact H2_) | (have H2_ := (Option.bind_some _ _).symm.trans H; with_reducible exact H2_) | with_reducible exact H | (rw [hy142]; exact H) | exact H
                 have Ny142 := Aside0.mk hy142
                 clear hy142
                 by_cases c77 : x9_2.length < 17592186044416
                 ·rw [if_pos c77] at H
                  have LMc77 := Aside0.mk c77
                  clear c77
                  obtain ⟨y143, hy143⟩ : ∃ y_ : List Int, y_ = (x9_2 ++ [x11_56]) := ⟨_, rfl⟩
                  replace H : (spec_SerialOrder.l4 kj56 l0 x4_2 y143 y142 x11_56 l0 (l0.length : Int) 0) = some (r1, r2) := by first | (rw [hy143]; with_reducible exact H) | (have H2_ := (Option.bind_some _ _).symm.trans H; rw [hy143]; with_reducible exact H2_) | (have H2_ := (Option.bind_some _ _).symm.trans H; with_reducible exact H2_) | with_reducible exact H | (rw [hy143]; exact H) | exact H
                  have Ny143 := Aside0.mk hy143
                  clear hy143
                  have H' := Aside0.mk H
                  clear H
                  have p76 : 0 ≤ (x11_56 : Int) := of_decide_eq_true (by first | (with_reducible assumption) | assumption)
                  have q76 : (x11_56 : Int) < ((x10_2.length : Int) : Int) := of_decide_eq_true (by first | (with_reducible assumption) | assumption)
                  obtain ⟨go76, co76, eo76, gb76, gl76, cl76, HG76⟩ := Kd.R_form HO_10.out (by omega)
                  (first | cases eo76 | (injection eo76 with ea_ en_ ec_; (first | subst ea_ | (injection ea_ with ea_; subst ea_)); subst ec_; clear en_))
                  have GB76 := Aside0.mk gb76
                  have GG76 := Aside0.mk HG76
                  clear gb76 gl76 HG76
                  obtain ⟨hx76_0, hf76_0⟩ := Kd.R_celln false HO_10.out (x11_56 : Int) p76 q76
                  replace p76 := eq_true p76
                  replace q76 := eq_true q76
                  have HP78 := Kd.R_putg HO_10.out (x11_56 : Int) true
                  go_wp2_with (first | ((with_reducible refine gate_store (t := 4) (p := 92) rfl ?_); refine store_event (t := 4) (p := 92) (v := ?vo_w79) (w1 := (wc.setCell ⟨go76, (x11_56 : Int).toNat, none⟩ (.bool true))) ?hg ?ho ?hn ?hr ?_; (case ho => rfl); (case hg => rfl); (case hn => rfl); (case hr => first | (go_simp; done) | (go_simp; rfl)); intro w79 hw; have hg : wc.grownBy w79 (some go76) := (by rw [hw]; exact HP78.2); have hp_ : Kd.R Kd.bool 4 w79 w.heap.size (fun _ => True) (.slice (some ⟨go76, 0, none⟩) x10_2.length co76) y142 := (by rw [hw, Ny142.out]; exact HP78.1); clear HP78; have n0_ := Aside0.mk (Kd.R_over' (v := (.slice (some ⟨go76, 0, none⟩) x10_2.length co76)) (by (with_reducible repeat (first | apply Kd.R_alloc | apply Kd.R_drewN | apply Kd.R_drew)); exact HO_4.out) (Kd.R_typed HO_10.out) (by decide) hg); have n1_ := Aside0.mk (Kd.R_over' (v := (.slice (some ⟨go76, 0, none⟩) x10_2.length co76)) (by (with_reducible repeat (first | apply Kd.R_alloc | apply Kd.R_drewN | apply Kd.R_drew)); exact HO_9.out) (Kd.R_typed HO_10.out) (by decide) hg); have n2_ := Aside0.mk (hp_); have n3_ := Aside0.mk ((by rw [hw]; exact below_set (HB.out) GB76.out : Below w.heap.size w w79)); clear HO_4; clear HO_9; clear HO_10; clear HB; have HO_4 := n0_; have HO_9 := n1_; have HO_10 := n2_; have HB := n3_; clear n0_ n1_ n2_ n3_; clear hg hw hp_) | ((with_reducible refine gate_builtin (b := .append) (xs := #[.tmp 93, .tmp 95]) rfl ?_); at_builtin; refine Kd.R_append (Kd.int .i64) (w0 := w) w.heap.size rfl (.tmp 93) (.tmp 95) 24 3 (.int .i64 0) 8 rfl Try.underlying24 info3 rfl (by decide) (by omega) (.slice Ao58 x9_2.length co58) x9_2 x11_56 [.int .i64 x11_56] (fun k_ => some k_ ≠ (v120 : Value).ownBlock) (fun _ => False) rfl rfl ?aP (fun _ hk => hk.elim) ?aF ?aO ?aB ?aS ?aL ?_; (case aP => exact rfl); (case aB => exact (by repeat (first | (with_reducible first | exact HB.out | apply below_alloc | apply pw_below_drewN | apply below_drew1) | exact HB.out))); (case aF => exact (fun k_ hk => Kd.fresh' (Kd.R_lt (by (with_reducible repeat (first | apply Kd.R_alloc | apply Kd.R_drewN | apply Kd.R_drew)); exact HO_4.out)) k_ hk)); (case aO => exact (by (with_reducible repeat (first | apply Kd.R_alloc | apply Kd.R_drewN | apply Kd.R_drew)); exact HO_9.out)); (case aS => exact (below_size (by repeat (first | (with_reducible first | exact HB.out | apply below_alloc | apply pw_below_drewN | apply below_drew1) | exact HB.out)))); (case aL => have := LMc77.out; omega); intro v144 w80 ho hb hg hat; rw [← Ny143.out] at ho; have n0_ := Aside0.mk (Kd.R_after (ok := (fun _ => True)) (by (with_reducible repeat (first | apply Kd.R_alloc | apply Kd.R_drewN | apply Kd.R_drew)); exact Kd.R_mono HO_4.out (fun _ hk => ⟨trivial, hk⟩)) hg hat); have n1_ := Aside0.mk (Kd.R_over' (by (with_reducible repeat (first | apply Kd.R_alloc | apply Kd.R_drewN | apply Kd.R_drew)); exact HO_10.out) (Kd.R_typed (by (with_reducible repeat (first | apply Kd.R_alloc | apply Kd.R_drewN | apply Kd.R_drew)); exact HO_9.out)) (by decide) hg); have n2_ := Aside0.mk (hb); have n3_ := Aside0.mk (ho); clear HO_4; clear HO_10; clear HB; clear HO_9; have HO_4 := n0_; have HO_10 := n1_; have HB := n2_; have HO145 := n3_; clear n0_ n1_ n2_ n3_; clear ho hb hg hat))
                  go_loopg [99] kj56 (fun kq v99 w' => ∃ (x4_4 : List Int) (x99_4 : Int), v99 = .int .i64 x99_4 ∧ Aside0 (spec_SerialOrder.l4 kq l0 x4_4 y143 y142 x11_56 l0 (l0.length : Int) x99_4 = some (r1, r2)) ∧ Aside0 (kq ≤ kj56) ∧ Aside0 (Kd.R (Kd.int .i64) 3 w' w.heap.size (fun k_ => some k_ ≠ (v144 : Value).ownBlock) v120 x4_4) ∧ Aside0 (Kd.R (Kd.int .i64) 3 w' w.heap.size (fun k_ => some k_ ≠ (v120 : Value).ownBlock) v144 y143) ∧ Aside0 (Kd.R Kd.bool 4 w' w.heap.size (fun _ => True) (.slice (some ⟨go76, 0, none⟩) x10_2.length co76) y142) ∧ Aside0 (Below w.heap.size w w'))
                  case atStart => exact ⟨(x4_2), (0), (by first | rfl | (simp; done) | (simp [*]; done)), H', ⟨Nat.le_refl _⟩, ⟨by (with_reducible repeat (first | apply Kd.R_alloc | apply Kd.R_drewN | apply Kd.R_drew)); exact Kd.R_mono HO_4.out (fun _ hk => hk.2)⟩, ⟨by (with_reducible repeat (first | apply Kd.R_alloc | apply Kd.R_drewN | apply Kd.R_drew)); exact HO145.out⟩, ⟨by (with_reducible repeat (first | apply Kd.R_alloc | apply Kd.R_drewN | apply Kd.R_drew)); exact HO_10.out⟩, ⟨by repeat (first | (with_reducible first | exact HB.out | apply below_alloc | apply pw_below_drewN | apply below_drew1) | exact HB.out)⟩⟩
                  case round =>
                   clear H'
                   try clear c1
                   try clear p1
                   try clear q1
                   try clear hx1
                   try clear c2
                   try clear p2
                   try clear q2
                   try clear hx2
                   try clear hf2
                   try clear c3
                   try clear p3
                   try clear q3
                   try clear hx3
                   try clear hf3
                   try clear c4
                   try clear c4b0
                   try clear c4b1
                   try clear c5
                   try clear c5b0
                   try clear c5b1
                   try clear c6
                   try clear p6
                   try clear q6
                   try clear c7
                   try clear p7
                   try clear q7
                   try clear hx7
                   try clear hf7
                   try clear c9
                   try clear c9b0
                   try clear c10
                   try clear c10b0
                   try clear c11
                   try clear c11b0
                   try clear c12
                   try clear p12
                   try clear q12
                   try clear hx12
                   try clear p13
                   try clear q13
                   try clear hx13
                   try clear c14
                   try clear c14b0
                   try clear c15
                   try clear c15b0
                   try clear c16
                   try clear c16b0
                   try clear c17
                   try clear c17b0
                   try clear c17b1
                   try clear c19
                   try clear c21
                   try clear c21b0
                   try clear c22
                   try clear c22b0
                   try clear p23
                   try clear q23
                   try clear hx23
                   try clear hf23
                   try clear c25
                   try clear c27
                   try clear c34
                   try clear c35
                   try clear c35b0
                   try clear p36
                   try clear q36
                   try clear hx36
                   try clear hf36
                   try clear c38
                   try clear c46
                   try clear c50
                   try clear c50b0
                   try clear c50b1
                   try clear c51
                   try clear c51b0
                   try clear c51b1
                   try clear c56
                   try clear c56b0
                   try clear c56b1
                   try clear c59
                   try clear c59b0
                   try clear c60
                   try clear c60b0
                   try clear c61
                   try clear c61b0
                   try clear q62
                   try clear c63
                   try clear p64
                   try clear c65
                   try clear c65b0
                   try clear c66
                   try clear c66b0
                   try clear c66b1
                   try clear c71
                   try clear c71b0
                   try clear c74
                   try clear c74b0
                   try clear c75
                   try clear c75b0
                   try clear p76
                   try clear q76
                   try clear hx76
                   try clear hf76
                   try clear c77
                   try clear hcz13_0
                   try clear hcz13_1
                   try clear hcz13_2
                   try clear hcz13_3
                   try clear hcz20_0
                   try clear hcz20_1
                   try clear hcz20_2
                   try clear hcz20_3
                   try clear hcz26_0
                   try clear hcz26_1
                   try clear hcz26_2
                   try clear hcz26_3
                   try clear hcz28_0
                   try clear hcz28_1
                   try clear hcz28_2
                   try clear hcz28_3
                   try clear hcz29_0
                   try clear hcz29_1
                   try clear hcz29_2
                   try clear hcz29_3
                   try clear hcz39_0
                   try clear hcz39_1
                   try clear hcz39_2
                   try clear hcz39_3
                   try clear hcz40_0
                   try clear hcz40_1
                   try clear hcz40_2
                   try clear hcz40_3
                   try clear hcz47_0
                   try clear hcz47_1
                   try clear hcz47_2
                   try clear hcz47_3
                   try clear hcz48_0
                   try clear hcz48_1
                   try clear hcz48_2
                   try clear hcz48_3
                   try clear hfz13_0
                   try clear hfz13_1
                   try clear hfz13_2
                   try clear hfz13_3
                   try clear hfz20_0
                   try clear hfz20_1
                   try clear hfz20_2
                   try clear hfz20_3
                   try clear hfz26_0
                   try clear hfz26_1
                   try clear hfz26_2
                   try clear hfz26_3
                   try clear hfz28_0
                   try clear hfz28_1
                   try clear hfz28_2
                   try clear hfz28_3
                   try clear hfz29_0
                   try clear hfz29_1
                   try clear hfz29_2
                   try clear hfz29_3
                   try clear hfz39_0
                   try clear hfz39_1
                   try clear hfz39_2
                   try clear hfz39_3
                   try clear hfz40_0
                   try clear hfz40_1
                   try clear hfz40_2
                   try clear hfz40_3
                   try clear hfz47_0
                   try clear hfz47_1
                   try clear hfz47_2
                   try clear hfz47_3
                   try clear hfz48_0
                   try clear hfz48_1
                   try clear hfz48_2
                   try clear hfz48_3
                   try clear hx122_0
                   try clear hx122_1
                   try clear hx122_2
                   try clear hx122_3
                   try clear hx124_0
                   try clear hx124_1
                   try clear hx124_2
                   try clear hx124_3
                   try clear hx126_0
                   try clear hx129_0
                   try clear hx137_0
                   try clear hx138_0
                   try clear hx23_0
                   try clear hx36_0
                   try clear hx76_0
                   try clear p1
                   try clear p12
                   try clear p122
                   try clear p124
                   try clear p126
                   try clear p129
                   try clear p13
                   try clear p137
                   try clear p138
                   try clear p2
                   try clear p23
                   try clear p3
                   try clear p36
                   try clear p6
                   try clear p64
                   try clear p76
                   try clear q1
                   try clear q12
                   try clear q122
                   try clear q124
                   try clear q126
                   try clear q129
                   try clear q13
                   try clear q137
                   try clear q138
                   try clear q2
                   try clear q23
                   try clear q3
                   try clear q36
                   try clear q6
                   try clear q62
                   try clear q76
                   obtain ⟨x4_4, x99_4, rfl, HA, HK4, HO_4, HO_9, HO_10, HB⟩ := hrel
                   have hl10_4 := (Kd.R_reads' HO_10.out).1
                   rw [hl10_4] at HO_10
                   (try simp only [hl10_4])
                   (try simp only [hl10_4] at HO_4)
                   (try simp only [hl10_4] at HO_9)
                   cases gk with
                   | zero => exact absurd HA.out (by simp [spec_SerialOrder.l4])
                   | succ k4 =>
                    have H := HA.out
                    clear HA
                    simp only [spec_SerialOrder.l4] at H
                    by_cases c81 : x99_4 < (l0.length : Int)
                    ·rw [if_pos c81] at H
                     have c81b0 : decide (x99_4 < (l0.length : Int)) = true := decide_eq_true c81
                     clear c81
                     by_cases c82 : 0 ≤ x99_4
                     ·rw [if_pos c82] at H
                      have c82b0 : decide (0 ≤ x99_4) = true := decide_eq_true c82
                      clear c82
                      by_cases c83 : x99_4 < (l0.length : Int)
                      ·rw [if_pos c83] at H
                       have c83b0 : decide (x99_4 < (l0.length : Int)) = true := decide_eq_true c83
                       clear c83
                       by_cases c84 : x99_4 = x11_56
                       ·rw [if_pos c84] at H
                        have c84b0 : (x99_4 == x11_56) = true := beq_iff_eq.mpr c84
                        have c84b1 : (x99_4 != x11_56) = false := bne_eq_false_iff_eq.mpr c84
                        clear c84
                        have H' := Aside0.mk H
                        clear H
                        have p146 : 0 ≤ (x99_4 : Int) := of_decide_eq_true (by first | (with_reducible assumption) | assumption)
                        have q146 : x99_4 < (l0.length : Int) := of_decide_eq_true (by first | (with_reducible assumption) | assumption)
                        obtain ⟨ad146, A146_2, c146_2, A146_3, c146_3, e146, hx146_0, hx146_1, hx146_2, hx146_3, hl146_2, hi146_2, hl146_3, hi146_3⟩ := at_T56 HR0.out x99_4 p146 q146
                        cases e146
                        replace hx146_0 := (HB.out.cell (World.block_lt_of_cell? w _ hx146_0)).trans hx146_0
                        replace hx146_1 := (HB.out.cell (World.block_lt_of_cell? w _ hx146_1)).trans hx146_1
                        replace hx146_2 := (HB.out.cell (World.block_lt_of_cell? w _ hx146_2)).trans hx146_2
                        replace hx146_3 := (HB.out.cell (World.block_lt_of_cell? w _ hx146_3)).trans hx146_3
                        have HR146_2 := Aside0.mk hi146_2
                        have HC146_2 := Aside0.mk hl146_2
                        clear hi146_2 hl146_2
                        have HR146_3 := Aside0.mk hi146_3
                        have HC146_3 := Aside0.mk hl146_3
                        clear hi146_3 hl146_3
                        replace p146 := eq_true p146
                        replace q146 := eq_true q146
                        try go_wp2_with (first | ((with_reducible refine gate_dst (N := 14) rfl ?_); refine box_event ?hg (N := 14) ?hd (cs := #[.int .i64 0, .int .i64 0, .slice none 0 0, .slice none 0 0]) (t := 56) ?hr ?_; (case hd => rfl); (case hg => rfl); (case hr => first | (go_simp; done) | (go_simp; rfl)); intro gb147 hg w85 hbox hb; have n0_ := Aside0.mk (Kd.R_below (by (with_reducible repeat (first | apply Kd.R_alloc | apply Kd.R_drewN | apply Kd.R_drew)); exact HO_4.out) hb); have n1_ := Aside0.mk (Kd.R_below (by (with_reducible repeat (first | apply Kd.R_alloc | apply Kd.R_drewN | apply Kd.R_drew)); exact HO_9.out) hb); have n2_ := Aside0.mk (Kd.R_below (by (with_reducible repeat (first | apply Kd.R_alloc | apply Kd.R_drewN | apply Kd.R_drew)); exact HO_10.out) hb); have n3_ := Aside0.mk (below_step (by repeat (first | (with_reducible first | exact HB.out | apply below_alloc | apply pw_below_drewN | apply below_drew1) | exact HB.out)) hb); have n4_ := Aside0.mk (hbox); have n5_ := Aside0.mk ((by rw [hg]; exact (below_size (by repeat (first | (with_reducible first | exact HB.out | apply below_alloc | apply pw_below_drewN | apply below_drew1) | exact HB.out))) : w.heap.size ≤ gb147)); have n6_ := Aside0.mk ((by rw [hg]; exact (below_size (by repeat (first | (with_reducible first | exact HB.out | apply below_alloc | apply pw_below_drewN | apply below_drew1) | exact HB.out))) : w.heap.size ≤ gb147)); clear HO_4; clear HO_9; clear HO_10; clear HB; have HO_4 := n0_; have HO_9 := n1_; have HO_10 := n2_; have HB := n3_; have BK147 := n4_; have GW147 := n5_; have GE147 := n6_; clear n0_ n1_ n2_ n3_ n4_ n5_ n6_; clear hb hbox hg; have hcz86_0 : w85.cell? ⟨gb147, 0, none⟩ = some (.int .i64 0) := (blk_cell BK147.out 0).trans rfl; have hcz86_1 : w85.cell? ⟨gb147, 1, none⟩ = some (.int .i64 0) := (blk_cell BK147.out 1).trans rfl; have hcz86_2 : w85.cell? ⟨gb147, 2, none⟩ = some (.slice none 0 0) := (blk_cell BK147.out 2).trans rfl; have hcz86_3 : w85.cell? ⟨gb147, 3, none⟩ = some (.slice none 0 0) := (blk_cell BK147.out 3).trans rfl; have hfz86_0 := blk_frozen BK147.out 0; have hfz86_1 := blk_frozen BK147.out 1; have hfz86_2 := blk_frozen BK147.out 2; have hfz86_3 := blk_frozen BK147.out 3))
                        have n0_ : Aside0 (Kd.R (Kd.int .i64) 3 ((((w85.setCell ⟨gb147, 0, none⟩ (.int .i64 ((rd_T56 l0 x99_4).f0))).setCell ⟨gb147, 1, none⟩ (.int .i64 ((rd_T56 l0 x99_4).f1))).setCell ⟨gb147, 2, none⟩ (.slice A146_2 ((rd_T56 l0 x99_4).f2).length c146_2)).setCell ⟨gb147, 3, none⟩ (.slice A146_3 ((rd_T56 l0 x99_4).f3).length c146_3)) w.heap.size (fun k_ => some k_ ≠ (v144 : Value).ownBlock) v120 x4_4) := ⟨by (with_reducible repeat (first | apply Kd.R_alloc | apply Kd.R_drewN | apply Kd.R_drew)); exact Kd.R_mono (Kd.R_far (p := ⟨gb147, 3, none⟩) (Kd.R_far (p := ⟨gb147, 2, none⟩) (Kd.R_far (p := ⟨gb147, 1, none⟩) (Kd.R_far (p := ⟨gb147, 0, none⟩) (Kd.R_types HO_4.out BK147.out (by decide)) (fun _ hk => hk.2) (.int .i64 ((rd_T56 l0 x99_4).f0))) (fun _ hk => hk.2) (.int .i64 ((rd_T56 l0 x99_4).f1))) (fun _ hk => hk.2) (.slice A146_2 ((rd_T56 l0 x99_4).f2).length c146_2)) (fun _ hk => hk.2) (.slice A146_3 ((rd_T56 l0 x99_4).f3).length c146_3)) (fun _ hk => hk.1)⟩
                        have n1_ : Aside0 (Kd.R (Kd.int .i64) 3 ((((w85.setCell ⟨gb147, 0, none⟩ (.int .i64 ((rd_T56 l0 x99_4).f0))).setCell ⟨gb147, 1, none⟩ (.int .i64 ((rd_T56 l0 x99_4).f1))).setCell ⟨gb147, 2, none⟩ (.slice A146_2 ((rd_T56 l0 x99_4).f2).length c146_2)).setCell ⟨gb147, 3, none⟩ (.slice A146_3 ((rd_T56 l0 x99_4).f3).length c146_3)) w.heap.size (fun k_ => some k_ ≠ (v120 : Value).ownBlock) v144 y143) := ⟨by (with_reducible repeat (first | apply Kd.R_alloc | apply Kd.R_drewN | apply Kd.R_drew)); exact Kd.R_mono (Kd.R_far (p := ⟨gb147, 3, none⟩) (Kd.R_far (p := ⟨gb147, 2, none⟩) (Kd.R_far (p := ⟨gb147, 1, none⟩) (Kd.R_far (p := ⟨gb147, 0, none⟩) (Kd.R_types HO_9.out BK147.out (by decide)) (fun _ hk => hk.2) (.int .i64 ((rd_T56 l0 x99_4).f0))) (fun _ hk => hk.2) (.int .i64 ((rd_T56 l0 x99_4).f1))) (fun _ hk => hk.2) (.slice A146_2 ((rd_T56 l0 x99_4).f2).length c146_2)) (fun _ hk => hk.2) (.slice A146_3 ((rd_T56 l0 x99_4).f3).length c146_3)) (fun _ hk => hk.1)⟩
                        have n2_ : Aside0 (Kd.R Kd.bool 4 ((((w85.setCell ⟨gb147, 0, none⟩ (.int .i64 ((rd_T56 l0 x99_4).f0))).setCell ⟨gb147, 1, none⟩ (.int .i64 ((rd_T56 l0 x99_4).f1))).setCell ⟨gb147, 2, none⟩ (.slice A146_2 ((rd_T56 l0 x99_4).f2).length c146_2)).setCell ⟨gb147, 3, none⟩ (.slice A146_3 ((rd_T56 l0 x99_4).f3).length c146_3)) w.heap.size (fun _ => True) (.slice (some ⟨go76, 0, none⟩) y142.length co76) y142) := ⟨by (with_reducible repeat (first | apply Kd.R_alloc | apply Kd.R_drewN | apply Kd.R_drew)); exact Kd.R_mono (Kd.R_far (p := ⟨gb147, 3, none⟩) (Kd.R_far (p := ⟨gb147, 2, none⟩) (Kd.R_far (p := ⟨gb147, 1, none⟩) (Kd.R_far (p := ⟨gb147, 0, none⟩) (Kd.R_types HO_10.out BK147.out (by decide)) (fun _ hk => hk.2) (.int .i64 ((rd_T56 l0 x99_4).f0))) (fun _ hk => hk.2) (.int .i64 ((rd_T56 l0 x99_4).f1))) (fun _ hk => hk.2) (.slice A146_2 ((rd_T56 l0 x99_4).f2).length c146_2)) (fun _ hk => hk.2) (.slice A146_3 ((rd_T56 l0 x99_4).f3).length c146_3)) (fun _ hk => trivial)⟩
                        have n3_ : Aside0 (((((w85.setCell ⟨gb147, 0, none⟩ (.int .i64 ((rd_T56 l0 x99_4).f0))).setCell ⟨gb147, 1, none⟩ (.int .i64 ((rd_T56 l0 x99_4).f1))).setCell ⟨gb147, 2, none⟩ (.slice A146_2 ((rd_T56 l0 x99_4).f2).length c146_2)).setCell ⟨gb147, 3, none⟩ (.slice A146_3 ((rd_T56 l0 x99_4).f3).length c146_3)).heap[gb147]? = some (.cells #[.int .i64 ((rd_T56 l0 x99_4).f0), .int .i64 ((rd_T56 l0 x99_4).f1), .slice A146_2 ((rd_T56 l0 x99_4).f2).length c146_2, .slice A146_3 ((rd_T56 l0 x99_4).f3).length c146_3] 56 (0, 0))) := ⟨by (with_reducible repeat (first | refine blk_drewN ?_ _ | refine blk_drew ?_ | refine blk_alloc ?_ _)); refine blk_put (cs := #[.int .i64 ((rd_T56 l0 x99_4).f0), .int .i64 ((rd_T56 l0 x99_4).f1), .slice A146_2 ((rd_T56 l0 x99_4).f2).length c146_2, .slice none 0 0]) ?_ 3 _ rfl; (with_reducible repeat (first | refine blk_drewN ?_ _ | refine blk_drew ?_ | refine blk_alloc ?_ _)); refine blk_put (cs := #[.int .i64 ((rd_T56 l0 x99_4).f0), .int .i64 ((rd_T56 l0 x99_4).f1), .slice none 0 0, .slice none 0 0]) ?_ 2 _ rfl; (with_reducible repeat (first | refine blk_drewN ?_ _ | refine blk_drew ?_ | refine blk_alloc ?_ _)); refine blk_put (cs := #[.int .i64 ((rd_T56 l0 x99_4).f0), .int .i64 0, .slice none 0 0, .slice none 0 0]) ?_ 1 _ rfl; (with_reducible repeat (first | refine blk_drewN ?_ _ | refine blk_drew ?_ | refine blk_alloc ?_ _)); refine blk_put (cs := #[.int .i64 0, .int .i64 0, .slice none 0 0, .slice none 0 0]) ?_ 0 _ rfl; (with_reducible repeat (first | refine blk_drewN ?_ _ | refine blk_drew ?_ | refine blk_alloc ?_ _)); exact BK147.out⟩
                        have n4_ : Aside0 (Below w.heap.size w ((((w85.setCell ⟨gb147, 0, none⟩ (.int .i64 ((rd_T56 l0 x99_4).f0))).setCell ⟨gb147, 1, none⟩ (.int .i64 ((rd_T56 l0 x99_4).f1))).setCell ⟨gb147, 2, none⟩ (.slice A146_2 ((rd_T56 l0 x99_4).f2).length c146_2)).setCell ⟨gb147, 3, none⟩ (.slice A146_3 ((rd_T56 l0 x99_4).f3).length c146_3))) := ⟨by repeat (first | (with_reducible first | exact HB.out | apply below_alloc | apply pw_below_drewN | apply below_drew1 | refine below_set ?_ GE147.out) | exact HB.out)⟩
                        (try clear HO_4)
                        (try clear HO_9)
                        (try clear HO_10)
                        (try clear BK147)
                        (try clear HB)
                        generalize ((((w85.setCell ⟨gb147, 0, none⟩ (.int .i64 ((rd_T56 l0 x99_4).f0))).setCell ⟨gb147, 1, none⟩ (.int .i64 ((rd_T56 l0 x99_4).f1))).setCell ⟨gb147, 2, none⟩ (.slice A146_2 ((rd_T56 l0 x99_4).f2).length c146_2)).setCell ⟨gb147, 3, none⟩ (.slice A146_3 ((rd_T56 l0 x99_4).f3).length c146_3)) = w87 at n0_ n1_ n2_ n3_ n4_ ⊢
                        have HO_4 := n0_
                        have HO_9 := n1_
                        have HO_10 := n2_
                        have BK147 := n3_
                        have HB := n4_
                        clear n0_ n1_ n2_ n3_ n4_
                        have n0_ := Aside0.mk (Kd.R_drew HO_4.out)
                        have n1_ := Aside0.mk (Kd.R_drew HO_9.out)
                        have n2_ := Aside0.mk (Kd.R_drew HO_10.out)
                        have n3_ := Aside0.mk (blk_drew BK147.out)
                        have n4_ := Aside0.mk (below_drew1 HB.out)
                        clear HO_4
                        clear HO_9
                        clear HO_10
                        clear BK147
                        clear HB
                        have HO_4 := n0_
                        have HO_9 := n1_
                        have HO_10 := n2_
                        have BK147 := n3_
                        have HB := n4_
                        clear n0_ n1_ n2_ n3_ n4_
                        refine start_ (n := 21) (S := fun w' => True) (ds := []) #[false, false, false, false, false, false, false, false, false, false, false, false, false, false, false, false, false, false, false, false, false] (by kernel_rfl) rfl rfl trivial (fun hHeld => ?_); refine with_tabW spec_SerialOrder.tab31 spec_SerialOrder.bits31 (fun HT_ HW_ => ?_)
                        generalize w87.drew = w88 at HO_4 HO_9 HO_10 BK147 HB hHeld ⊢
                        refine pure_ (i := 0) (N := some 104) (v := ?_) (a' := ?_) #[true, false, false, false, false, false, false, false, false, false, false, false, false, false, false, false, false, false, false, false, false] rfl rfl (any_of HT_.out (by kernel_rfl)) (fun _ _ _ h => h) (Or.inl ⟨by rfl, ?_⟩) ?_ ?_
                        rotate_left
                        ·intro w'
                         go_simp
                         with_reducible rfl
                        rotate_left
                        ·simp only [Act.put, List.setIfInBounds_toArray, List.set_cons_zero, List.set_cons_succ, i64_w, i32_w]
                         rfl
                        refine pure_ (i := 1) (N := some 105) (v := ?_) (a' := ?_) #[true, true, false, false, false, false, false, false, false, false, false, false, false, false, false, false, false, false, false, false, false] rfl rfl (any_of HT_.out (by kernel_rfl)) (fun _ _ _ h => h) (Or.inl ⟨by rfl, ?_⟩) ?_ ?_
                        rotate_left
                        ·intro w'
                         go_simp
                         with_reducible rfl
                        rotate_left
                        ·simp only [Act.put, List.setIfInBounds_toArray, List.set_cons_zero, List.set_cons_succ, i64_w, i32_w]
                         rfl
                        refine pure_ (i := 2) (N := some 106) (v := ?_) (a' := ?_) #[true, true, true, false, false, false, false, false, false, false, false, false, false, false, false, false, false, false, false, false, false] rfl rfl (any_of HT_.out (by kernel_rfl)) (fun _ _ _ h => h) (Or.inl ⟨by rfl, ?_⟩) ?_ ?_
                        rotate_left
                        ·intro w'
                         go_simp
                         with_reducible rfl
                        rotate_left
                        ·simp only [Act.put, List.setIfInBounds_toArray, List.set_cons_zero, List.set_cons_succ, i64_w, i32_w]
                         rfl
                        refine pure_ (i := 3) (N := some 107) (v := ?_) (a' := ?_) #[true, true, true, true, false, false, false, false, false, false, false, false, false, false, false, false, false, false, false, false, false] rfl rfl (any_of HT_.out (by kernel_rfl)) (fun _ _ _ h => h) (Or.inl ⟨by rfl, ?_⟩) ?_ ?_
                        rotate_left
                        ·intro w'
                         go_simp
                         with_reducible rfl
                        rotate_left
                        ·simp only [Act.put, List.setIfInBounds_toArray, List.set_cons_zero, List.set_cons_succ, i64_w, i32_w]
                         rfl
                        refine pure_ (i := 4) (N := some 108) (v := undef) (a' := ?_) #[true, true, true, true, true, false, false, false, false, false, false, false, false, false, false, false, false, false, false, false, false] rfl rfl (any_of HT_.out (by kernel_rfl)) (fun _ _ _ h => h) (Or.inr ⟨by rfl, rfl⟩) ?_ ?_
                        rotate_left
                        ·simp only [Act.put, List.setIfInBounds_toArray, List.set_cons_zero, List.set_cons_succ, i64_w, i32_w]
                         rfl
                        refine pure_ (i := 5) (N := some 109) (v := undef) (a' := ?_) #[true, true, true, true, true, true, false, false, false, false, false, false, false, false, false, false, false, false, false, false, false] rfl rfl (any_of HT_.out (by kernel_rfl)) (fun _ _ _ h => h) (Or.inr ⟨by rfl, rfl⟩) ?_ ?_
                        rotate_left
                        ·simp only [Act.put, List.setIfInBounds_toArray, List.set_cons_zero, List.set_cons_succ, i64_w, i32_w]
                         rfl
                        refine pure_ (i := 6) (N := some 110) (v := undef) (a' := ?_) #[true, true, true, true, true, true, true, false, false, false, false, false, false, false, false, false, false, false, false, false, false] rfl rfl (any_of HT_.out (by kernel_rfl)) (fun _ _ _ h => h) (Or.inr ⟨by rfl, rfl⟩) ?_ ?_
                        rotate_left
                        ·simp only [Act.put, List.setIfInBounds_toArray, List.set_cons_zero, List.set_cons_succ, i64_w, i32_w]
                         rfl
                        refine pure_ (i := 7) (N := some 111) (v := undef) (a' := ?_) #[true, true, true, true, true, true, true, true, false, false, false, false, false, false, false, false, false, false, false, false, false] rfl rfl (any_of HT_.out (by kernel_rfl)) (fun _ _ _ h => h) (Or.inr ⟨by rfl, rfl⟩) ?_ ?_
                        rotate_left
                        ·simp only [Act.put, List.setIfInBounds_toArray, List.set_cons_zero, List.set_cons_succ, i64_w, i32_w]
                         rfl
                        refine pure_ (i := 8) (N := some 112) (v := undef) (a' := ?_) #[true, true, true, true, true, true, true, true, true, false, false, false, false, false, false, false, false, false, false, false, false] rfl rfl (any_of HT_.out (by kernel_rfl)) (fun _ _ _ h => h) (Or.inr ⟨by rfl, rfl⟩) ?_ ?_
                        rotate_left
                        ·simp only [Act.put, List.setIfInBounds_toArray, List.set_cons_zero, List.set_cons_succ, i64_w, i32_w]
                         rfl
                        refine pure_ (i := 9) (N := some 113) (v := undef) (a' := ?_) #[true, true, true, true, true, true, true, true, true, true, false, false, false, false, false, false, false, false, false, false, false] rfl rfl (any_of HT_.out (by kernel_rfl)) (fun _ _ _ h => h) (Or.inr ⟨by rfl, rfl⟩) ?_ ?_
                        rotate_left
                        ·simp only [Act.put, List.setIfInBounds_toArray, List.set_cons_zero, List.set_cons_succ, i64_w, i32_w]
                         rfl
                        refine pure_ (i := 10) (N := some 114) (v := undef) (a' := ?_) #[true, true, true, true, true, true, true, true, true, true, true, false, false, false, false, false, false, false, false, false, false] rfl rfl (any_of HT_.out (by kernel_rfl)) (fun _ _ _ h => h) (Or.inr ⟨by rfl, rfl⟩) ?_ ?_
                        rotate_left
                        ·simp only [Act.put, List.setIfInBounds_toArray, List.set_cons_zero, List.set_cons_succ, i64_w, i32_w]
                         rfl
                        refine pure_ (i := 11) (N := some 115) (v := undef) (a' := ?_) #[true, true, true, true, true, true, true, true, true, true, true, true, false, false, false, false, false, false, false, false, false] rfl rfl (any_of HT_.out (by kernel_rfl)) (fun _ _ _ h => h) (Or.inr ⟨by rfl, rfl⟩) ?_ ?_
                        rotate_left
                        ·simp only [Act.put, List.setIfInBounds_toArray, List.set_cons_zero, List.set_cons_succ, i64_w, i32_w]
                         rfl
                        refine pure_ (i := 12) (N := some 116) (v := undef) (a' := ?_) #[true, true, true, true, true, true, true, true, true, true, true, true, true, false, false, false, false, false, false, false, false] rfl rfl (any_of HT_.out (by kernel_rfl)) (fun _ _ _ h => h) (Or.inr ⟨by rfl, rfl⟩) ?_ ?_
                        rotate_left
                        ·simp only [Act.put, List.setIfInBounds_toArray, List.set_cons_zero, List.set_cons_succ, i64_w, i32_w]
                         rfl
                        refine pure_ (i := 13) (N := some 117) (v := undef) (a' := ?_) #[true, true, true, true, true, true, true, true, true, true, true, true, true, true, false, false, false, false, false, false, false] rfl rfl (any_of HT_.out (by kernel_rfl)) (fun _ _ _ h => h) (Or.inr ⟨by rfl, rfl⟩) ?_ ?_
                        rotate_left
                        ·simp only [Act.put, List.setIfInBounds_toArray, List.set_cons_zero, List.set_cons_succ, i64_w, i32_w]
                         rfl
                        refine pure_ (i := 14) (N := some 118) (v := undef) (a' := ?_) #[true, true, true, true, true, true, true, true, true, true, true, true, true, true, true, false, false, false, false, false, false] rfl rfl (any_of HT_.out (by kernel_rfl)) (fun _ _ _ h => h) (Or.inr ⟨by rfl, rfl⟩) ?_ ?_
                        rotate_left
                        ·simp only [Act.put, List.setIfInBounds_toArray, List.set_cons_zero, List.set_cons_succ, i64_w, i32_w]
                         rfl
                        refine pure_ (i := 15) (N := some 119) (v := undef) (a' := ?_) #[true, true, true, true, true, true, true, true, true, true, true, true, true, true, true, true, false, false, false, false, false] rfl rfl (any_of HT_.out (by kernel_rfl)) (fun _ _ _ h => h) (Or.inr ⟨by rfl, rfl⟩) ?_ ?_
                        rotate_left
                        ·simp only [Act.put, List.setIfInBounds_toArray, List.set_cons_zero, List.set_cons_succ, i64_w, i32_w]
                         rfl
                        refine pure_ (i := 16) (N := some 120) (v := undef) (a' := ?_) #[true, true, true, true, true, true, true, true, true, true, true, true, true, true, true, true, true, false, false, false, false] rfl rfl (any_of HT_.out (by kernel_rfl)) (fun _ _ _ h => h) (Or.inr ⟨by rfl, rfl⟩) ?_ ?_
                        rotate_left
                        ·simp only [Act.put, List.setIfInBounds_toArray, List.set_cons_zero, List.set_cons_succ, i64_w, i32_w]
                         rfl
                        refine pure_ (i := 17) (N := some 121) (v := undef) (a' := ?_) #[true, true, true, true, true, true, true, true, true, true, true, true, true, true, true, true, true, true, false, false, false] rfl rfl (any_of HT_.out (by kernel_rfl)) (fun _ _ _ h => h) (Or.inr ⟨by rfl, rfl⟩) ?_ ?_
                        rotate_left
                        ·simp only [Act.put, List.setIfInBounds_toArray, List.set_cons_zero, List.set_cons_succ, i64_w, i32_w]
                         rfl
                        refine pure_ (i := 18) (N := some 122) (v := undef) (a' := ?_) #[true, true, true, true, true, true, true, true, true, true, true, true, true, true, true, true, true, true, true, false, false] rfl rfl (any_of HT_.out (by kernel_rfl)) (fun _ _ _ h => h) (Or.inr ⟨by rfl, rfl⟩) ?_ ?_
                        rotate_left
                        ·simp only [Act.put, List.setIfInBounds_toArray, List.set_cons_zero, List.set_cons_succ, i64_w, i32_w]
                         rfl
                        refine pure_ (i := 19) (N := some 123) (v := undef) (a' := ?_) #[true, true, true, true, true, true, true, true, true, true, true, true, true, true, true, true, true, true, true, true, false] rfl rfl (any_of HT_.out (by kernel_rfl)) (fun _ _ _ h => h) (Or.inr ⟨by rfl, rfl⟩) ?_ ?_
                        rotate_left
                        ·simp only [Act.put, List.setIfInBounds_toArray, List.set_cons_zero, List.set_cons_succ, i64_w, i32_w]
                         rfl
                        refine pure_ (i := 20) (N := some 124) (v := ?_) (a' := ?_) #[true, true, true, true, true, true, true, true, true, true, true, true, true, true, true, true, true, true, true, true, true] rfl rfl (any_of HT_.out (by kernel_rfl)) (fun _ _ _ h => h) (Or.inl ⟨by rfl, ?_⟩) ?_ ?_
                        rotate_left
                        ·intro w'
                         go_simp
                         with_reducible rfl
                        rotate_left
                        ·simp only [Act.put, List.setIfInBounds_toArray, List.set_cons_zero, List.set_cons_succ, i64_w, i32_w]
                         rfl
                        refine done_ (done_of HT_.out (by kernel_rfl)) ?_
                        try go_wp2
                        (try simp only [← hl10_4])
                        go_roundg k4
                        case measure => have := HK1.out; have := HK2.out; have := HJ56.out; have := HK4.out; omega
                        case rel => exact ⟨(x4_4), (wrap64 (x99_4 + 1)), (by first | rfl | (simp; done) | (simp [*]; done)), H', ⟨by have := HK1.out; have := HK2.out; have := HJ56.out; have := HK4.out; omega⟩, ⟨by (try simp only [hl10_4]); (with_reducible repeat (first | apply Kd.R_alloc | apply Kd.R_drewN | apply Kd.R_drew)); exact HO_4.out⟩, ⟨by (try simp only [hl10_4]); (with_reducible repeat (first | apply Kd.R_alloc | apply Kd.R_drewN | apply Kd.R_drew)); exact HO_9.out⟩, ⟨by (try simp only [hl10_4]); (with_reducible repeat (first | apply Kd.R_alloc | apply Kd.R_drewN | apply Kd.R_drew)); exact HO_10.out⟩, ⟨by repeat (first | (with_reducible first | exact HB.out | apply below_alloc | apply pw_below_drewN | apply below_drew1 | refine below_set ?_ GE147.out) | exact HB.out)⟩⟩
                       ·rw [if_neg c84] at H
                        have c84b0 : (x99_4 == x11_56) = false := beq_eq_false_iff_ne.mpr c84
                        have c84b1 : (x99_4 != x11_56) = true := bne_iff_ne.mpr c84
                        by_cases c89 : 0 ≤ x11_56
                        ·rw [if_pos c89] at H
                         have c89b0 : decide (0 ≤ x11_56) = true := decide_eq_true c89
                         clear c89
                         by_cases c90 : x11_56 < (l0.length : Int)
                         ·rw [if_pos c90] at H
                          have c90b0 : decide (x11_56 < (l0.length : Int)) = true := decide_eq_true c90
                          clear c90
                          by_cases c91 : ((rd_T56 l0 x11_56).f1) ≤ ((rd_T56 l0 x99_4).f0)
                          ·rw [if_pos c91] at H
                           have c91b0 : decide (((rd_T56 l0 x11_56).f1) ≤ ((rd_T56 l0 x99_4).f0)) = true := decide_eq_true c91
                           clear c91
                           by_cases c92 : x99_4 < (x4_4.length : Int)
                           ·rw [if_pos c92] at H
                            have c92b0 : decide (x99_4 < (x4_4.length : Int)) = true := decide_eq_true c92
                            clear c92
                            obtain ⟨y150, hy150⟩ : ∃ y_ : List Int, y_ = (x4_4.set (x99_4 : Int).toNat (wrap64 ((rd x4_4 x99_4) - 1))) := ⟨_, rfl⟩
                            replace H : (spec_SerialOrder.l4 k4 l0 y150 y143 y142 x11_56 l0 (l0.length : Int) (wrap64 (x99_4 + 1))) = some (r1, r2) := by first | (rw [hy150]; with_reducible exact H) | (have H2_ := (Option.bind_some _ _).symm.trans H; rw [hy150]; with_reducible exact H2_) | (have H2_ := (Option.bind_some _ _).symm.trans H; with_reducible exact H2_) | with_reducible exact H | (rw [hy150]; exact H) | exact H
                            have Ny150 := Aside0.mk hy150
                            clear hy150
                            have H' := Aside0.mk H
                            clear H
                            have p146 : 0 ≤ (x99_4 : Int) := of_decide_eq_true (by first | (with_reducible assumption) | assumption)
                            have q146 : x99_4 < (l0.length : Int) := of_decide_eq_true (by first | (with_reducible assumption) | assumption)
                            obtain ⟨ad146, A146_2, c146_2, A146_3, c146_3, e146, hx146_0, hx146_1, hx146_2, hx146_3, hl146_2, hi146_2, hl146_3, hi146_3⟩ := at_T56 HR0.out x99_4 p146 q146
                            cases e146
                            replace hx146_0 := (HB.out.cell (World.block_lt_of_cell? w _ hx146_0)).trans hx146_0
                            replace hx146_1 := (HB.out.cell (World.block_lt_of_cell? w _ hx146_1)).trans hx146_1
                            replace hx146_2 := (HB.out.cell (World.block_lt_of_cell? w _ hx146_2)).trans hx146_2
                            replace hx146_3 := (HB.out.cell (World.block_lt_of_cell? w _ hx146_3)).trans hx146_3
                            have HR146_2 := Aside0.mk hi146_2
                            have HC146_2 := Aside0.mk hl146_2
                            clear hi146_2 hl146_2
                            have HR146_3 := Aside0.mk hi146_3
                            have HC146_3 := Aside0.mk hl146_3
                            clear hi146_3 hl146_3
                            replace p146 := eq_true p146
                            replace q146 := eq_true q146
                            try go_wp2_with (first | ((with_reducible refine gate_dst (N := 14) rfl ?_); refine box_event ?hg (N := 14) ?hd (cs := #[.int .i64 0, .int .i64 0, .slice none 0 0, .slice none 0 0]) (t := 56) ?hr ?_; (case hd => rfl); (case hg => rfl); (case hr => first | (go_simp; done) | (go_simp; rfl)); intro gb147 hg w94 hbox hb; have n0_ := Aside0.mk (Kd.R_below (by (with_reducible repeat (first | apply Kd.R_alloc | apply Kd.R_drewN | apply Kd.R_drew)); exact HO_4.out) hb); have n1_ := Aside0.mk (Kd.R_below (by (with_reducible repeat (first | apply Kd.R_alloc | apply Kd.R_drewN | apply Kd.R_drew)); exact HO_9.out) hb); have n2_ := Aside0.mk (Kd.R_below (by (with_reducible repeat (first | apply Kd.R_alloc | apply Kd.R_drewN | apply Kd.R_drew)); exact HO_10.out) hb); have n3_ := Aside0.mk (below_step (by repeat (first | (with_reducible first | exact HB.out | apply below_alloc | apply pw_below_drewN | apply below_drew1) | exact HB.out)) hb); have n4_ := Aside0.mk (hbox); have n5_ := Aside0.mk ((by rw [hg]; exact (below_size (by repeat (first | (with_reducible first | exact HB.out | apply below_alloc | apply pw_below_drewN | apply below_drew1) | exact HB.out))) : w.heap.size ≤ gb147)); have n6_ := Aside0.mk ((by rw [hg]; exact (below_size (by repeat (first | (with_reducible first | exact HB.out | apply below_alloc | apply pw_below_drewN | apply below_drew1) | exact HB.out))) : w.heap.size ≤ gb147)); clear HO_4; clear HO_9; clear HO_10; clear HB; have HO_4 := n0_; have HO_9 := n1_; have HO_10 := n2_; have HB := n3_; have BK147 := n4_; have GW147 := n5_; have GE147 := n6_; clear n0_ n1_ n2_ n3_ n4_ n5_ n6_; clear hb hbox hg; have hcz95_0 : w94.cell? ⟨gb147, 0, none⟩ = some (.int .i64 0) := (blk_cell BK147.out 0).trans rfl; have hcz95_1 : w94.cell? ⟨gb147, 1, none⟩ = some (.int .i64 0) := (blk_cell BK147.out 1).trans rfl; have hcz95_2 : w94.cell? ⟨gb147, 2, none⟩ = some (.slice none 0 0) := (blk_cell BK147.out 2).trans rfl; have hcz95_3 : w94.cell? ⟨gb147, 3, none⟩ = some (.slice none 0 0) := (blk_cell BK147.out 3).trans rfl; have hfz95_0 := blk_frozen BK147.out 0; have hfz95_1 := blk_frozen BK147.out 1; have hfz95_2 := blk_frozen BK147.out 2; have hfz95_3 := blk_frozen BK147.out 3))
                            have n0_ : Aside0 (Kd.R (Kd.int .i64) 3 ((((w94.setCell ⟨gb147, 0, none⟩ (.int .i64 ((rd_T56 l0 x99_4).f0))).setCell ⟨gb147, 1, none⟩ (.int .i64 ((rd_T56 l0 x99_4).f1))).setCell ⟨gb147, 2, none⟩ (.slice A146_2 ((rd_T56 l0 x99_4).f2).length c146_2)).setCell ⟨gb147, 3, none⟩ (.slice A146_3 ((rd_T56 l0 x99_4).f3).length c146_3)) w.heap.size (fun k_ => some k_ ≠ (v144 : Value).ownBlock) v120 x4_4) := ⟨by (with_reducible repeat (first | apply Kd.R_alloc | apply Kd.R_drewN | apply Kd.R_drew)); exact Kd.R_mono (Kd.R_far (p := ⟨gb147, 3, none⟩) (Kd.R_far (p := ⟨gb147, 2, none⟩) (Kd.R_far (p := ⟨gb147, 1, none⟩) (Kd.R_far (p := ⟨gb147, 0, none⟩) (Kd.R_types HO_4.out BK147.out (by decide)) (fun _ hk => hk.2) (.int .i64 ((rd_T56 l0 x99_4).f0))) (fun _ hk => hk.2) (.int .i64 ((rd_T56 l0 x99_4).f1))) (fun _ hk => hk.2) (.slice A146_2 ((rd_T56 l0 x99_4).f2).length c146_2)) (fun _ hk => hk.2) (.slice A146_3 ((rd_T56 l0 x99_4).f3).length c146_3)) (fun _ hk => hk.1)⟩
                            have n1_ : Aside0 (Kd.R (Kd.int .i64) 3 ((((w94.setCell ⟨gb147, 0, none⟩ (.int .i64 ((rd_T56 l0 x99_4).f0))).setCell ⟨gb147, 1, none⟩ (.int .i64 ((rd_T56 l0 x99_4).f1))).setCell ⟨gb147, 2, none⟩ (.slice A146_2 ((rd_T56 l0 x99_4).f2).length c146_2)).setCell ⟨gb147, 3, none⟩ (.slice A146_3 ((rd_T56 l0 x99_4).f3).length c146_3)) w.heap.size (fun k_ => some k_ ≠ (v120 : Value).ownBlock) v144 y143) := ⟨by (with_reducible repeat (first | apply Kd.R_alloc | apply Kd.R_drewN | apply Kd.R_drew)); exact Kd.R_mono (Kd.R_far (p := ⟨gb147, 3, none⟩) (Kd.R_far (p := ⟨gb147, 2, none⟩) (Kd.R_far (p := ⟨gb147, 1, none⟩) (Kd.R_far (p := ⟨gb147, 0, none⟩) (Kd.R_types HO_9.out BK147.out (by decide)) (fun _ hk => hk.2) (.int .i64 ((rd_T56 l0 x99_4).f0))) (fun _ hk => hk.2) (.int .i64 ((rd_T56 l0 x99_4).f1))) (fun _ hk => hk.2) (.slice A146_2 ((rd_T56 l0 x99_4).f2).length c146_2)) (fun _ hk => hk.2) (.slice A146_3 ((rd_T56 l0 x99_4).f3).length c146_3)) (fun _ hk => hk.1)⟩
                            have n2_ : Aside0 (Kd.R Kd.bool 4 ((((w94.setCell ⟨gb147, 0, none⟩ (.int .i64 ((rd_T56 l0 x99_4).f0))).setCell ⟨gb147, 1, none⟩ (.int .i64 ((rd_T56 l0 x99_4).f1))).setCell ⟨gb147, 2, none⟩ (.slice A146_2 ((rd_T56 l0 x99_4).f2).length c146_2)).setCell ⟨gb147, 3, none⟩ (.slice A146_3 ((rd_T56 l0 x99_4).f3).length c146_3)) w.heap.size (fun _ => True) (.slice (some ⟨go76, 0, none⟩) y142.length co76) y142) := ⟨by (with_reducible repeat (first | apply Kd.R_alloc | apply Kd.R_drewN | apply Kd.R_drew)); exact Kd.R_mono (Kd.R_far (p := ⟨gb147, 3, none⟩) (Kd.R_far (p := ⟨gb147, 2, none⟩) (Kd.R_far (p := ⟨gb147, 1, none⟩) (Kd.R_far (p := ⟨gb147, 0, none⟩) (Kd.R_types HO_10.out BK147.out (by decide)) (fun _ hk => hk.2) (.int .i64 ((rd_T56 l0 x99_4).f0))) (fun _ hk => hk.2) (.int .i64 ((rd_T56 l0 x99_4).f1))) (fun _ hk => hk.2) (.slice A146_2 ((rd_T56 l0 x99_4).f2).length c146_2)) (fun _ hk => hk.2) (.slice A146_3 ((rd_T56 l0 x99_4).f3).length c146_3)) (fun _ hk => trivial)⟩
                            have n3_ : Aside0 (((((w94.setCell ⟨gb147, 0, none⟩ (.int .i64 ((rd_T56 l0 x99_4).f0))).setCell ⟨gb147, 1, none⟩ (.int .i64 ((rd_T56 l0 x99_4).f1))).setCell ⟨gb147, 2, none⟩ (.slice A146_2 ((rd_T56 l0 x99_4).f2).length c146_2)).setCell ⟨gb147, 3, none⟩ (.slice A146_3 ((rd_T56 l0 x99_4).f3).length c146_3)).heap[gb147]? = some (.cells #[.int .i64 ((rd_T56 l0 x99_4).f0), .int .i64 ((rd_T56 l0 x99_4).f1), .slice A146_2 ((rd_T56 l0 x99_4).f2).length c146_2, .slice A146_3 ((rd_T56 l0 x99_4).f3).length c146_3] 56 (0, 0))) := ⟨by (with_reducible repeat (first | refine blk_drewN ?_ _ | refine blk_drew ?_ | refine blk_alloc ?_ _)); refine blk_put (cs := #[.int .i64 ((rd_T56 l0 x99_4).f0), .int .i64 ((rd_T56 l0 x99_4).f1), .slice A146_2 ((rd_T56 l0 x99_4).f2).length c146_2, .slice none 0 0]) ?_ 3 _ rfl; (with_reducible repeat (first | refine blk_drewN ?_ _ | refine blk_drew ?_ | refine blk_alloc ?_ _)); refine blk_put (cs := #[.int .i64 ((rd_T56 l0 x99_4).f0), .int .i64 ((rd_T56 l0 x99_4).f1), .slice none 0 0, .slice none 0 0]) ?_ 2 _ rfl; (with_reducible repeat (first | refine blk_drewN ?_ _ | refine blk_drew ?_ | refine blk_alloc ?_ _)); refine blk_put (cs := #[.int .i64 ((rd_T56 l0 x99_4).f0), .int .i64 0, .slice none 0 0, .slice none 0 0]) ?_ 1 _ rfl; (with_reducible repeat (first | refine blk_drewN ?_ _ | refine blk_drew ?_ | refine blk_alloc ?_ _)); refine blk_put (cs := #[.int .i64 0, .int .i64 0, .slice none 0 0, .slice none 0 0]) ?_ 0 _ rfl; (with_reducible repeat (first | refine blk_drewN ?_ _ | refine blk_drew ?_ | refine blk_alloc ?_ _)); exact BK147.out⟩
                            have n4_ : Aside0 (Below w.heap.size w ((((w94.setCell ⟨gb147, 0, none⟩ (.int .i64 ((rd_T56 l0 x99_4).f0))).setCell ⟨gb147, 1, none⟩ (.int .i64 ((rd_T56 l0 x99_4).f1))).setCell ⟨gb147, 2, none⟩ (.slice A146_2 ((rd_T56 l0 x99_4).f2).length c146_2)).setCell ⟨gb147, 3, none⟩ (.slice A146_3 ((rd_T56 l0 x99_4).f3).length c146_3))) := ⟨by repeat (first | (with_reducible first | exact HB.out | apply below_alloc | apply pw_below_drewN | apply below_drew1 | refine below_set ?_ GE147.out) | exact HB.out)⟩
                            (try clear HO_4)
                            (try clear HO_9)
                            (try clear HO_10)
                            (try clear BK147)
                            (try clear HB)
                            generalize ((((w94.setCell ⟨gb147, 0, none⟩ (.int .i64 ((rd_T56 l0 x99_4).f0))).setCell ⟨gb147, 1, none⟩ (.int .i64 ((rd_T56 l0 x99_4).f1))).setCell ⟨gb147, 2, none⟩ (.slice A146_2 ((rd_T56 l0 x99_4).f2).length c146_2)).setCell ⟨gb147, 3, none⟩ (.slice A146_3 ((rd_T56 l0 x99_4).f3).length c146_3)) = w96 at n0_ n1_ n2_ n3_ n4_ ⊢
                            have HO_4 := n0_
                            have HO_9 := n1_
                            have HO_10 := n2_
                            have BK147 := n3_
                            have HB := n4_
                            clear n0_ n1_ n2_ n3_ n4_
                            have n0_ := Aside0.mk (Kd.R_drew HO_4.out)
                            have n1_ := Aside0.mk (Kd.R_drew HO_9.out)
                            have n2_ := Aside0.mk (Kd.R_drew HO_10.out)
                            have n3_ := Aside0.mk (blk_drew BK147.out)
                            have n4_ := Aside0.mk (below_drew1 HB.out)
                            clear HO_4
                            clear HO_9
                            clear HO_10
                            clear BK147
                            clear HB
                            have HO_4 := n0_
                            have HO_9 := n1_
                            have HO_10 := n2_
                            have BK147 := n3_
                            have HB := n4_
                            clear n0_ n1_ n2_ n3_ n4_
                            have p148 : 0 ≤ (x11_56 : Int) := of_decide_eq_true (by first | (with_reducible assumption) | assumption)
                            have q148 : x11_56 < (l0.length : Int) := of_decide_eq_true (by first | (with_reducible assumption) | assumption)
                            obtain ⟨ad148, A148_2, c148_2, A148_3, c148_3, e148, hx148_0, hx148_1, hx148_2, hx148_3, hl148_2, hi148_2, hl148_3, hi148_3⟩ := at_T56 HR0.out x11_56 p148 q148
                            have hw148_3 := hx148_3
                            have hw148_2 := hx148_2
                            have hw148_1 := hx148_1
                            have hw148_0 := hx148_0
                            obtain rfl : ad146 = ad148 := (by injection e148)
                            replace hx148_0 := (HB.out.cell (World.block_lt_of_cell? w _ hx148_0)).trans hx148_0
                            replace hx148_1 := (HB.out.cell (World.block_lt_of_cell? w _ hx148_1)).trans hx148_1
                            replace hx148_2 := (HB.out.cell (World.block_lt_of_cell? w _ hx148_2)).trans hx148_2
                            replace hx148_3 := (HB.out.cell (World.block_lt_of_cell? w _ hx148_3)).trans hx148_3
                            have HR148_2 := Aside0.mk hi148_2
                            have HC148_2 := Aside0.mk hl148_2
                            clear hi148_2 hl148_2
                            have HR148_3 := Aside0.mk hi148_3
                            have HC148_3 := Aside0.mk hl148_3
                            clear hi148_3 hl148_3
                            replace p148 := eq_true p148
                            replace q148 := eq_true q148
                            refine start_ (n := 21) (S := fun w' => w'.cell? ⟨gb147, 0, none⟩ = some (.int .i64 ((rd_T56 l0 x99_4).f0)) ∧ w'.cell? ⟨gb147, 1, none⟩ = some (.int .i64 ((rd_T56 l0 x99_4).f1)) ∧ w'.cell? ⟨gb147, 2, none⟩ = some (.slice A146_2 ((rd_T56 l0 x99_4).f2).length c146_2) ∧ w'.cell? ⟨gb147, 3, none⟩ = some (.slice A146_3 ((rd_T56 l0 x99_4).f3).length c146_3) ∧ w'.cell? (ad146.add ((x11_56).toNat * 4)) = some (.int .i64 ((rd_T56 l0 x11_56).f0)) ∧ w'.cell? ⟨(ad146.add ((x11_56).toNat * 4)).block, (ad146.add ((x11_56).toNat * 4)).off + 1, none⟩ = some (.int .i64 ((rd_T56 l0 x11_56).f1)) ∧ w'.cell? ⟨(ad146.add ((x11_56).toNat * 4)).block, (ad146.add ((x11_56).toNat * 4)).off + 2, none⟩ = some (.slice A148_2 ((rd_T56 l0 x11_56).f2).length c148_2) ∧ w'.cell? ⟨(ad146.add ((x11_56).toNat * 4)).block, (ad146.add ((x11_56).toNat * 4)).off + 3, none⟩ = some (.slice A148_3 ((rd_T56 l0 x11_56).f3).length c148_3)) (ds := []) #[false, false, false, false, false, false, false, false, false, false, false, false, false, false, false, false, false, false, false, false, false] (by kernel_rfl) rfl rfl ⟨(blk_cell BK147.out 0).trans rfl, (blk_cell BK147.out 1).trans rfl, (blk_cell BK147.out 2).trans rfl, (blk_cell BK147.out 3).trans rfl, ((HB.out.cell (World.block_lt_of_cell? w _ hw148_0)).trans hw148_0), ((HB.out.cell (World.block_lt_of_cell? w _ hw148_1)).trans hw148_1), ((HB.out.cell (World.block_lt_of_cell? w _ hw148_2)).trans hw148_2), ((HB.out.cell (World.block_lt_of_cell? w _ hw148_3)).trans hw148_3)⟩ (fun hHeld => ?_); refine with_tabW spec_SerialOrder.tab31 spec_SerialOrder.bits31 (fun HT_ HW_ => ?_)
                            generalize w96.drew = w97 at HO_4 HO_9 HO_10 BK147 HB HR148_2 HR148_3 hx148_0 hx148_1 hx148_2 hx148_3 hHeld ⊢
                            refine pure_ (i := 0) (N := some 104) (v := ?_) (a' := ?_) #[true, false, false, false, false, false, false, false, false, false, false, false, false, false, false, false, false, false, false, false, false] rfl rfl (any_of HT_.out (by kernel_rfl)) (fun _ _ _ h => h) (Or.inl ⟨by rfl, ?_⟩) ?_ ?_
                            rotate_left
                            ·intro w'
                             go_simp
                             with_reducible rfl
                            rotate_left
                            ·simp only [Act.put, List.setIfInBounds_toArray, List.set_cons_zero, List.set_cons_succ, i64_w, i32_w]
                             rfl
                            refine pure_ (i := 1) (N := some 105) (v := ?_) (a' := ?_) #[true, true, false, false, false, false, false, false, false, false, false, false, false, false, false, false, false, false, false, false, false] rfl rfl (any_of HT_.out (by kernel_rfl)) (fun _ _ _ h => h) (Or.inl ⟨by rfl, ?_⟩) ?_ ?_
                            rotate_left
                            ·intro w'
                             go_simp
                             with_reducible rfl
                            rotate_left
                            ·simp only [Act.put, List.setIfInBounds_toArray, List.set_cons_zero, List.set_cons_succ, i64_w, i32_w]
                             rfl
                            refine pure_ (i := 2) (N := some 106) (v := ?_) (a' := ?_) #[true, true, true, false, false, false, false, false, false, false, false, false, false, false, false, false, false, false, false, false, false] rfl rfl (any_of HT_.out (by kernel_rfl)) (fun _ _ _ h => h) (Or.inl ⟨by rfl, ?_⟩) ?_ ?_
                            rotate_left
                            ·intro w'
                             go_simp
                             with_reducible rfl
                            rotate_left
                            ·simp only [Act.put, List.setIfInBounds_toArray, List.set_cons_zero, List.set_cons_succ, i64_w, i32_w]
                             rfl
                            refine pure_ (i := 3) (N := some 107) (v := ?_) (a' := ?_) #[true, true, true, true, false, false, false, false, false, false, false, false, false, false, false, false, false, false, false, false, false] rfl rfl (any_of HT_.out (by kernel_rfl)) (fun _ _ _ h => h) (Or.inl ⟨by rfl, ?_⟩) ?_ ?_
                            rotate_left
                            ·intro w'
                             go_simp
                             with_reducible rfl
                            rotate_left
                            ·simp only [Act.put, List.setIfInBounds_toArray, List.set_cons_zero, List.set_cons_succ, i64_w, i32_w]
                             rfl
                            refine pure_ (i := 4) (N := some 108) (v := ?_) (a' := ?_) #[true, true, true, true, true, false, false, false, false, false, false, false, false, false, false, false, false, false, false, false, false] rfl rfl (any_of HT_.out (by kernel_rfl)) (fun _ _ _ h => h) (Or.inl ⟨by rfl, ?_⟩) ?_ ?_
                            rotate_left
                            ·intro w'
                             go_simp
                             with_reducible rfl
                            rotate_left
                            ·simp only [Act.put, List.setIfInBounds_toArray, List.set_cons_zero, List.set_cons_succ, i64_w, i32_w]
                             rfl
                            refine pure_ (i := 5) (N := some 109) (v := ?_) (a' := ?_) #[true, true, true, true, true, true, false, false, false, false, false, false, false, false, false, false, false, false, false, false, false] rfl rfl (any_of HT_.out (by kernel_rfl)) (fun _ _ _ h => h) (Or.inl ⟨by rfl, ?_⟩) ?_ ?_
                            rotate_left
                            ·intro w'
                             go_simp
                             with_reducible rfl
                            rotate_left
                            ·simp only [Act.put, List.setIfInBounds_toArray, List.set_cons_zero, List.set_cons_succ, i64_w, i32_w]
                             rfl
                            refine pure_ (i := 6) (N := some 110) (v := ?_) (a' := ?_) #[true, true, true, true, true, true, true, false, false, false, false, false, false, false, false, false, false, false, false, false, false] rfl rfl (any_of HT_.out (by kernel_rfl)) (fun _ _ _ h => h) (Or.inl ⟨by rfl, ?_⟩) ?_ ?_
                            rotate_left
                            ·intro w'
                             go_simp
                             with_reducible rfl
                            rotate_left
                            ·simp only [Act.put, List.setIfInBounds_toArray, List.set_cons_zero, List.set_cons_succ, i64_w, i32_w]
                             rfl
                            refine pure_ (i := 7) (N := some 111) (v := ?_) (a' := ?_) #[true, true, true, true, true, true, true, true, false, false, false, false, false, false, false, false, false, false, false, false, false] rfl rfl (any_of HT_.out (by kernel_rfl)) (fun _ _ _ h => h) (Or.inl ⟨by rfl, ?_⟩) ?_ ?_
                            rotate_left
                            ·intro w'
                             go_simp
                             with_reducible rfl
                            rotate_left
                            ·simp only [Act.put, List.setIfInBounds_toArray, List.set_cons_zero, List.set_cons_succ, i64_w, i32_w]
                             rfl
                            refine pure_ (i := 9) (N := some 113) (v := ?_) (a' := ?_) #[true, true, true, true, true, true, true, true, false, true, false, false, false, false, false, false, false, false, false, false, false] rfl rfl (any_of HT_.out (by kernel_rfl)) (fun _ _ _ h => h) (Or.inl ⟨by rfl, ?_⟩) ?_ ?_
                            rotate_left
                            ·intro w'
                             go_simp
                             with_reducible rfl
                            rotate_left
                            ·simp only [Act.put, List.setIfInBounds_toArray, List.set_cons_zero, List.set_cons_succ, i64_w, i32_w]
                             rfl
                            refine take_ (i := 8) (N := some 112) (v := ?_) (a' := ?_) #[true, true, true, true, true, true, true, true, true, true, false, false, false, false, false, false, false, false, false, false, false] rfl rfl (take_ofW HT_.out HW_.out (by kernel_rfl)) (fun _ _ _ h => h) (Or.inl ⟨by rfl, ?_⟩) hHeld ?_ ?_
                            rotate_left
                            ·rintro w' ⟨s0, s1, s2, s3, s4, s5, s6, s7⟩
                             go_simp
                             with_reducible rfl
                            rotate_left
                            ·simp only [Act.put, List.setIfInBounds_toArray, List.set_cons_zero, List.set_cons_succ, i64_w, i32_w]
                             rfl
                            refine take_ (i := 10) (N := some 114) (v := ?_) (a' := ?_) #[true, true, true, true, true, true, true, true, true, true, true, false, false, false, false, false, false, false, false, false, false] rfl rfl (take_ofW HT_.out HW_.out (by kernel_rfl)) (fun _ _ _ h => h) (Or.inl ⟨by rfl, ?_⟩) hHeld ?_ ?_
                            rotate_left
                            ·rintro w' ⟨s0, s1, s2, s3, s4, s5, s6, s7⟩
                             go_simp
                             with_reducible rfl
                            rotate_left
                            ·simp only [Act.put, List.setIfInBounds_toArray, List.set_cons_zero, List.set_cons_succ, i64_w, i32_w]
                             rfl
                            refine pure_ (i := 11) (N := some 115) (v := ?_) (a' := ?_) #[true, true, true, true, true, true, true, true, true, true, true, true, false, false, false, false, false, false, false, false, false] rfl rfl (any_of HT_.out (by kernel_rfl)) (fun _ _ _ h => h) (Or.inl ⟨by rfl, ?_⟩) ?_ ?_
                            rotate_left
                            ·intro w'
                             go_simp
                             with_reducible rfl
                            rotate_left
                            ·simp only [Act.put, List.setIfInBounds_toArray, List.set_cons_zero, List.set_cons_succ, i64_w, i32_w]
                             rfl
                            refine pure_ (i := 12) (N := some 116) (v := ?_) (a' := ?_) #[true, true, true, true, true, true, true, true, true, true, true, true, true, false, false, false, false, false, false, false, false] rfl rfl (any_of HT_.out (by kernel_rfl)) (fun _ _ _ h => h) (Or.inl ⟨by rfl, ?_⟩) ?_ ?_
                            rotate_left
                            ·intro w'
                             go_simp
                             with_reducible rfl
                            rotate_left
                            ·simp only [Act.put, List.setIfInBounds_toArray, List.set_cons_zero, List.set_cons_succ, i64_w, i32_w]
                             rfl
                            refine pure_ (i := 13) (N := some 117) (v := undef) (a' := ?_) #[true, true, true, true, true, true, true, true, true, true, true, true, true, true, false, false, false, false, false, false, false] rfl rfl (any_of HT_.out (by kernel_rfl)) (fun _ _ _ h => h) (Or.inr ⟨by rfl, rfl⟩) ?_ ?_
                            rotate_left
                            ·simp only [Act.put, List.setIfInBounds_toArray, List.set_cons_zero, List.set_cons_succ, i64_w, i32_w]
                             rfl
                            refine pure_ (i := 14) (N := some 118) (v := undef) (a' := ?_) #[true, true, true, true, true, true, true, true, true, true, true, true, true, true, true, false, false, false, false, false, false] rfl rfl (any_of HT_.out (by kernel_rfl)) (fun _ _ _ h => h) (Or.inr ⟨by rfl, rfl⟩) ?_ ?_
                            rotate_left
                            ·simp only [Act.put, List.setIfInBounds_toArray, List.set_cons_zero, List.set_cons_succ, i64_w, i32_w]
                             rfl
                            refine pure_ (i := 15) (N := some 119) (v := undef) (a' := ?_) #[true, true, true, true, true, true, true, true, true, true, true, true, true, true, true, true, false, false, false, false, false] rfl rfl (any_of HT_.out (by kernel_rfl)) (fun _ _ _ h => h) (Or.inr ⟨by rfl, rfl⟩) ?_ ?_
                            rotate_left
                            ·simp only [Act.put, List.setIfInBounds_toArray, List.set_cons_zero, List.set_cons_succ, i64_w, i32_w]
                             rfl
                            refine pure_ (i := 16) (N := some 120) (v := undef) (a' := ?_) #[true, true, true, true, true, true, true, true, true, true, true, true, true, true, true, true, true, false, false, false, false] rfl rfl (any_of HT_.out (by kernel_rfl)) (fun _ _ _ h => h) (Or.inr ⟨by rfl, rfl⟩) ?_ ?_
                            rotate_left
                            ·simp only [Act.put, List.setIfInBounds_toArray, List.set_cons_zero, List.set_cons_succ, i64_w, i32_w]
                             rfl
                            refine pure_ (i := 17) (N := some 121) (v := undef) (a' := ?_) #[true, true, true, true, true, true, true, true, true, true, true, true, true, true, true, true, true, true, false, false, false] rfl rfl (any_of HT_.out (by kernel_rfl)) (fun _ _ _ h => h) (Or.inr ⟨by rfl, rfl⟩) ?_ ?_
                            rotate_left
                            ·simp only [Act.put, List.setIfInBounds_toArray, List.set_cons_zero, List.set_cons_succ, i64_w, i32_w]
                             rfl
                            refine pure_ (i := 18) (N := some 122) (v := undef) (a' := ?_) #[true, true, true, true, true, true, true, true, true, true, true, true, true, true, true, true, true, true, true, false, false] rfl rfl (any_of HT_.out (by kernel_rfl)) (fun _ _ _ h => h) (Or.inr ⟨by rfl, rfl⟩) ?_ ?_
                            rotate_left
                            ·simp only [Act.put, List.setIfInBounds_toArray, List.set_cons_zero, List.set_cons_succ, i64_w, i32_w]
                             rfl
                            refine pure_ (i := 19) (N := some 123) (v := ?_) (a' := ?_) #[true, true, true, true, true, true, true, true, true, true, true, true, true, true, true, true, true, true, true, true, false] rfl rfl (any_of HT_.out (by kernel_rfl)) (fun _ _ _ h => h) (Or.inl ⟨by rfl, ?_⟩) ?_ ?_
                            rotate_left
                            ·intro w'
                             go_simp
                             with_reducible rfl
                            rotate_left
                            ·simp only [Act.put, List.setIfInBounds_toArray, List.set_cons_zero, List.set_cons_succ, i64_w, i32_w]
                             rfl
                            refine pure_ (i := 20) (N := some 124) (v := ?_) (a' := ?_) #[true, true, true, true, true, true, true, true, true, true, true, true, true, true, true, true, true, true, true, true, true] rfl rfl (any_of HT_.out (by kernel_rfl)) (fun _ _ _ h => h) (Or.inl ⟨by rfl, ?_⟩) ?_ ?_
                            rotate_left
                            ·intro w'
                             go_simp
                             with_reducible rfl
                            rotate_left
                            ·simp only [Act.put, List.setIfInBounds_toArray, List.set_cons_zero, List.set_cons_succ, i64_w, i32_w]
                             rfl
                            refine done_ (done_of HT_.out (by kernel_rfl)) ?_
                            obtain ⟨Ao98, co98, eo98⟩ := Kd.R_slice HO_4.out
                            subst eo98
                            have p149 : 0 ≤ (x99_4 : Int) := of_decide_eq_true (by first | (with_reducible assumption) | assumption)
                            have q149 : x99_4 < (x4_4.length : Int) := of_decide_eq_true (by first | (with_reducible assumption) | assumption)
                            obtain ⟨ad149, e149, hx149_0⟩ := Kd.at_int (Kd.R_reads' HO_4.out).2.2 x99_4 p149 q149
                            cases e149
                            replace p149 := eq_true p149
                            replace q149 := eq_true q149
                            have p93 : 0 ≤ (x99_4 : Int) := of_decide_eq_true (by first | (with_reducible assumption) | assumption)
                            have q93 : (x99_4 : Int) < ((x4_4.length : Int) : Int) := of_decide_eq_true (by first | (with_reducible assumption) | assumption)
                            obtain ⟨go93, co93, eo93, gb93, gl93, cl93, HG93⟩ := Kd.R_form HO_4.out (by omega)
                            (first | cases eo93 | (injection eo93 with ea_ en_ ec_; (first | subst ea_ | (injection ea_ with ea_; subst ea_)); subst ec_; clear en_))
                            have GB93 := Aside0.mk gb93
                            have GG93 := Aside0.mk HG93
                            clear gb93 gl93 HG93
                            (first | simp only [add_plain] at hx149_0 | skip)
                            obtain ⟨hx93_0, hf93_0⟩ := Kd.R_celln 0 HO_4.out (x99_4 : Int) p93 q93
                            replace p93 := eq_true p93
                            replace q93 := eq_true q93
                            obtain ⟨hy99_, hz99_⟩ := Kd.R_celln 0 HO_4.out (x99_4 : Int) (of_decide_eq_true (by first | (with_reducible assumption) | assumption)) (of_decide_eq_true (by first | (with_reducible assumption) | assumption))
                            have HP99 := Kd.R_putg HO_4.out (x99_4 : Int) (wrap64 ((rd x4_4 x99_4) - 1))
                            try go_wp2_with (first | ((with_reducible refine gate_store (t := 3) (p := 130) rfl ?_); refine store_event (t := 3) (p := 130) (v := ?vo_w100) (w1 := (w97.setCell ⟨go93, (x99_4 : Int).toNat, none⟩ (.int .i64 (wrap64 ((rd x4_4 x99_4) - 1))))) ?hg ?ho ?hn ?hr ?_; (case ho => rfl); (case hg => rfl); (case hn => rfl); (case hr => first | (go_simp; done) | (go_simp; rfl)); intro w100 hw; have hg : w97.grownBy w100 (some go93) := (by rw [hw]; exact HP99.2); have hp_ : Kd.R (Kd.int .i64) 3 w100 w.heap.size (fun k_ => some k_ ≠ (v144 : Value).ownBlock) (.slice (some ⟨go93, 0, none⟩) x4_4.length co98) y150 := (by rw [hw, Ny150.out]; exact HP99.1); clear HP99; have n0_ := Aside0.mk (hp_); have n1_ := Aside0.mk (Kd.R_after (v := (.slice (some ⟨go93, 0, none⟩) x4_4.length co98)) (v1 := (.slice (some ⟨go93, 0, none⟩) x4_4.length co98)) (ok := (fun _ => True)) (by (with_reducible repeat (first | apply Kd.R_alloc | apply Kd.R_drewN | apply Kd.R_drew)); exact Kd.R_mono HO_9.out (fun _ hk => ⟨trivial, hk⟩)) hg (.inl rfl)); have n2_ := Aside0.mk (Kd.R_over' (v := (.slice (some ⟨go93, 0, none⟩) x4_4.length co98)) (by (with_reducible repeat (first | apply Kd.R_alloc | apply Kd.R_drewN | apply Kd.R_drew)); exact HO_10.out) (Kd.R_typed HO_4.out) (by decide) hg); have n3_ := Aside0.mk (blk_grown (g := gb147) (o := .cells #[.int .i64 ((rd_T56 l0 x99_4).f0), .int .i64 ((rd_T56 l0 x99_4).f1), .slice A146_2 ((rd_T56 l0 x99_4).f2).length c146_2, .slice A146_3 ((rd_T56 l0 x99_4).f3).length c146_3] 56 (0, 0)) (by (with_reducible repeat (first | refine blk_drewN ?_ _ | refine blk_drew ?_ | refine blk_alloc ?_ _)); exact BK147.out) hg (Kd.R_ne HO_4.out BK147.out (by decide))); have n4_ := Aside0.mk ((by rw [hw]; exact below_set (HB.out) GB93.out : Below w.heap.size w w100)); clear HO_4; clear HO_9; clear HO_10; clear BK147; clear HB; have HO_4 := n0_; have HO_9 := n1_; have HO_10 := n2_; have BK147 := n3_; have HB := n4_; clear n0_ n1_ n2_ n3_ n4_; clear hg hw hp_))
                            (try simp only [← hl10_4])
                            go_roundg k4
                            case measure => have := HK1.out; have := HK2.out; have := HJ56.out; have := HK4.out; omega
                            case rel => exact ⟨(y150), (wrap64 (x99_4 + 1)), (by first | rfl | (simp; done) | (simp [*]; done)), H', ⟨by have := HK1.out; have := HK2.out; have := HJ56.out; have := HK4.out; omega⟩, ⟨by (try simp only [hl10_4]); (with_reducible repeat (first | apply Kd.R_alloc | apply Kd.R_drewN | apply Kd.R_drew)); exact HO_4.out⟩, ⟨by (try simp only [hl10_4]); (with_reducible repeat (first | apply Kd.R_alloc | apply Kd.R_drewN | apply Kd.R_drew)); exact Kd.R_mono HO_9.out (fun _ hk => hk.2)⟩, ⟨by (try simp only [hl10_4]); (with_reducible repeat (first | apply Kd.R_alloc | apply Kd.R_drewN | apply Kd.R_drew)); exact HO_10.out⟩, ⟨by repeat (first | (with_reducible first | exact HB.out | apply below_alloc | apply pw_below_drewN | apply below_drew1 | refine below_set ?_ GE147.out) | exact HB.out)⟩⟩
                           ·rw [if_neg c92] at H
                            exact absurd H (by simp)
                          ·rw [if_neg c91] at H
                           have c91b0 : decide (((rd_T56 l0 x11_56).f1) ≤ ((rd_T56 l0 x99_4).f0)) = false := decide_eq_false c91
                           clear c91
                           replace H := Option.bind_eq_some_iff.mp H
                           obtain ⟨t152, A1010, H⟩ := H
                           replace H : (if t152 = true then (if x99_4 < (x4_4.length : Int) then (spec_SerialOrder.l4 k4 l0 (x4_4.set (x99_4 : Int).toNat (wrap64 ((rd x4_4 x99_4) - 1))) y143 y142 x11_56 l0 (l0.length : Int) (wrap64 (x99_4 + 1))) else (none)) else (spec_SerialOrder.l4 k4 l0 x4_4 y143 y142 x11_56 l0 (l0.length : Int) (wrap64 (x99_4 + 1)))) = some (r1, r2) := H
                           have A101 := Aside0.mk A1010
                           clear A1010
                           by_cases c102 : t152 = true
                           ·subst c102
                            have H1 : (if x99_4 < (x4_4.length : Int) then (spec_SerialOrder.l4 k4 l0 (x4_4.set (x99_4 : Int).toNat (wrap64 ((rd x4_4 x99_4) - 1))) y143 y142 x11_56 l0 (l0.length : Int) (wrap64 (x99_4 + 1))) else (none)) = some (r1, r2) := by rw [if_pos rfl] at H; exact H
                            clear H
                            have H := H1
                            clear H1
                            by_cases c103 : x99_4 < (x4_4.length : Int)
                            ·rw [if_pos c103] at H
                             have c103b0 : decide (x99_4 < (x4_4.length : Int)) = true := decide_eq_true c103
                             clear c103
                             obtain ⟨y154, hy154⟩ : ∃ y_ : List Int, y_ = (x4_4.set (x99_4 : Int).toNat (wrap64 ((rd x4_4 x99_4) - 1))) := ⟨_, rfl⟩
                             replace H : (spec_SerialOrder.l4 k4 l0 y154 y143 y142 x11_56 l0 (l0.length : Int) (wrap64 (x99_4 + 1))) = some (r1, r2) := by first | (rw [hy154]; with_reducible exact H) | (have H2_ := (Option.bind_some _ _).symm.trans H; rw [hy154]; with_reducible exact H2_) | (have H2_ := (Option.bind_some _ _).symm.trans H; with_reducible exact H2_) | with_reducible exact H | (rw [hy154]; exact H) | exact H
                             have Ny154 := Aside0.mk hy154
                             clear hy154
                             have H' := Aside0.mk H
                             clear H
                             have p146 : 0 ≤ (x99_4 : Int) := of_decide_eq_true (by first | (with_reducible assumption) | assumption)
                             have q146 : x99_4 < (l0.length : Int) := of_decide_eq_true (by first | (with_reducible assumption) | assumption)
                             obtain ⟨ad146, A146_2, c146_2, A146_3, c146_3, e146, hx146_0, hx146_1, hx146_2, hx146_3, hl146_2, hi146_2, hl146_3, hi146_3⟩ := at_T56 HR0.out x99_4 p146 q146
                             cases e146
                             replace hx146_0 := (HB.out.cell (World.block_lt_of_cell? w _ hx146_0)).trans hx146_0
                             replace hx146_1 := (HB.out.cell (World.block_lt_of_cell? w _ hx146_1)).trans hx146_1
                             replace hx146_2 := (HB.out.cell (World.block_lt_of_cell? w _ hx146_2)).trans hx146_2
                             replace hx146_3 := (HB.out.cell (World.block_lt_of_cell? w _ hx146_3)).trans hx146_3
                             have HR146_2 := Aside0.mk hi146_2
                             have HC146_2 := Aside0.mk hl146_2
                             clear hi146_2 hl146_2
                             have HR146_3 := Aside0.mk hi146_3
                             have HC146_3 := Aside0.mk hl146_3
                             clear hi146_3 hl146_3
                             replace p146 := eq_true p146
                             replace q146 := eq_true q146
                             try go_wp2_with (first | ((with_reducible refine gate_dst (N := 14) rfl ?_); refine box_event ?hg (N := 14) ?hd (cs := #[.int .i64 0, .int .i64 0, .slice none 0 0, .slice none 0 0]) (t := 56) ?hr ?_; (case hd => rfl); (case hg => rfl); (case hr => first | (go_simp; done) | (go_simp; rfl)); intro gb147 hg w105 hbox hb; have n0_ := Aside0.mk (Kd.R_below (by (with_reducible repeat (first | apply Kd.R_alloc | apply Kd.R_drewN | apply Kd.R_drew)); exact HO_4.out) hb); have n1_ := Aside0.mk (Kd.R_below (by (with_reducible repeat (first | apply Kd.R_alloc | apply Kd.R_drewN | apply Kd.R_drew)); exact HO_9.out) hb); have n2_ := Aside0.mk (Kd.R_below (by (with_reducible repeat (first | apply Kd.R_alloc | apply Kd.R_drewN | apply Kd.R_drew)); exact HO_10.out) hb); have n3_ := Aside0.mk (below_step (by repeat (first | (with_reducible first | exact HB.out | apply below_alloc | apply pw_below_drewN | apply below_drew1) | exact HB.out)) hb); have n4_ := Aside0.mk (hbox); have n5_ := Aside0.mk ((by rw [hg]; exact (below_size (by repeat (first | (with_reducible first | exact HB.out | apply below_alloc | apply pw_below_drewN | apply below_drew1) | exact HB.out))) : w.heap.size ≤ gb147)); have n6_ := Aside0.mk ((by rw [hg]; exact (below_size (by repeat (first | (with_reducible first | exact HB.out | apply below_alloc | apply pw_below_drewN | apply below_drew1) | exact HB.out))) : w.heap.size ≤ gb147)); clear HO_4; clear HO_9; clear HO_10; clear HB; have HO_4 := n0_; have HO_9 := n1_; have HO_10 := n2_; have HB := n3_; have BK147 := n4_; have GW147 := n5_; have GE147 := n6_; clear n0_ n1_ n2_ n3_ n4_ n5_ n6_; clear hb hbox hg; have hcz106_0 : w105.cell? ⟨gb147, 0, none⟩ = some (.int .i64 0) := (blk_cell BK147.out 0).trans rfl; have hcz106_1 : w105.cell? ⟨gb147, 1, none⟩ = some (.int .i64 0) := (blk_cell BK147.out 1).trans rfl; have hcz106_2 : w105.cell? ⟨gb147, 2, none⟩ = some (.slice none 0 0) := (blk_cell BK147.out 2).trans rfl; have hcz106_3 : w105.cell? ⟨gb147, 3, none⟩ = some (.slice none 0 0) := (blk_cell BK147.out 3).trans rfl; have hfz106_0 := blk_frozen BK147.out 0; have hfz106_1 := blk_frozen BK147.out 1; have hfz106_2 := blk_frozen BK147.out 2; have hfz106_3 := blk_frozen BK147.out 3))
                             have n0_ : Aside0 (Kd.R (Kd.int .i64) 3 ((((w105.setCell ⟨gb147, 0, none⟩ (.int .i64 ((rd_T56 l0 x99_4).f0))).setCell ⟨gb147, 1, none⟩ (.int .i64 ((rd_T56 l0 x99_4).f1))).setCell ⟨gb147, 2, none⟩ (.slice A146_2 ((rd_T56 l0 x99_4).f2).length c146_2)).setCell ⟨gb147, 3, none⟩ (.slice A146_3 ((rd_T56 l0 x99_4).f3).length c146_3)) w.heap.size (fun k_ => some k_ ≠ (v144 : Value).ownBlock) v120 x4_4) := ⟨by (with_reducible repeat (first | apply Kd.R_alloc | apply Kd.R_drewN | apply Kd.R_drew)); exact Kd.R_mono (Kd.R_far (p := ⟨gb147, 3, none⟩) (Kd.R_far (p := ⟨gb147, 2, none⟩) (Kd.R_far (p := ⟨gb147, 1, none⟩) (Kd.R_far (p := ⟨gb147, 0, none⟩) (Kd.R_types HO_4.out BK147.out (by decide)) (fun _ hk => hk.2) (.int .i64 ((rd_T56 l0 x99_4).f0))) (fun _ hk => hk.2) (.int .i64 ((rd_T56 l0 x99_4).f1))) (fun _ hk => hk.2) (.slice A146_2 ((rd_T56 l0 x99_4).f2).length c146_2)) (fun _ hk => hk.2) (.slice A146_3 ((rd_T56 l0 x99_4).f3).length c146_3)) (fun _ hk => hk.1)⟩
                             have n1_ : Aside0 (Kd.R (Kd.int .i64) 3 ((((w105.setCell ⟨gb147, 0, none⟩ (.int .i64 ((rd_T56 l0 x99_4).f0))).setCell ⟨gb147, 1, none⟩ (.int .i64 ((rd_T56 l0 x99_4).f1))).setCell ⟨gb147, 2, none⟩ (.slice A146_2 ((rd_T56 l0 x99_4).f2).length c146_2)).setCell ⟨gb147, 3, none⟩ (.slice A146_3 ((rd_T56 l0 x99_4).f3).length c146_3)) w.heap.size (fun k_ => some k_ ≠ (v120 : Value).ownBlock) v144 y143) := ⟨by (with_reducible repeat (first | apply Kd.R_alloc | apply Kd.R_drewN | apply Kd.R_drew)); exact Kd.R_mono (Kd.R_far (p := ⟨gb147, 3, none⟩) (Kd.R_far (p := ⟨gb147, 2, none⟩) (Kd.R_far (p := ⟨gb147, 1, none⟩) (Kd.R_far (p := ⟨gb147, 0, none⟩) (Kd.R_types HO_9.out BK147.out (by decide)) (fun _ hk => hk.2) (.int .i64 ((rd_T56 l0 x99_4).f0))) (fun _ hk => hk.2) (.int .i64 ((rd_T56 l0 x99_4).f1))) (fun _ hk => hk.2) (.slice A146_2 ((rd_T56 l0 x99_4).f2).length c146_2)) (fun _ hk => hk.2) (.slice A146_3 ((rd_T56 l0 x99_4).f3).length c146_3)) (fun _ hk => hk.1)⟩
                             have n2_ : Aside0 (Kd.R Kd.bool 4 ((((w105.setCell ⟨gb147, 0, none⟩ (.int .i64 ((rd_T56 l0 x99_4).f0))).setCell ⟨gb147, 1, none⟩ (.int .i64 ((rd_T56 l0 x99_4).f1))).setCell ⟨gb147, 2, none⟩ (.slice A146_2 ((rd_T56 l0 x99_4).f2).length c146_2)).setCell ⟨gb147, 3, none⟩ (.slice A146_3 ((rd_T56 l0 x99_4).f3).length c146_3)) w.heap.size (fun _ => True) (.slice (some ⟨go76, 0, none⟩) y142.length co76) y142) := ⟨by (with_reducible repeat (first | apply Kd.R_alloc | apply Kd.R_drewN | apply Kd.R_drew)); exact Kd.R_mono (Kd.R_far (p := ⟨gb147, 3, none⟩) (Kd.R_far (p := ⟨gb147, 2, none⟩) (Kd.R_far (p := ⟨gb147, 1, none⟩) (Kd.R_far (p := ⟨gb147, 0, none⟩) (Kd.R_types HO_10.out BK147.out (by decide)) (fun _ hk => hk.2) (.int .i64 ((rd_T56 l0 x99_4).f0))) (fun _ hk => hk.2) (.int .i64 ((rd_T56 l0 x99_4).f1))) (fun _ hk => hk.2) (.slice A146_2 ((rd_T56 l0 x99_4).f2).length c146_2)) (fun _ hk => hk.2) (.slice A146_3 ((rd_T56 l0 x99_4).f3).length c146_3)) (fun _ hk => trivial)⟩
                             have n3_ : Aside0 (((((w105.setCell ⟨gb147, 0, none⟩ (.int .i64 ((rd_T56 l0 x99_4).f0))).setCell ⟨gb147, 1, none⟩ (.int .i64 ((rd_T56 l0 x99_4).f1))).setCell ⟨gb147, 2, none⟩ (.slice A146_2 ((rd_T56 l0 x99_4).f2).length c146_2)).setCell ⟨gb147, 3, none⟩ (.slice A146_3 ((rd_T56 l0 x99_4).f3).length c146_3)).heap[gb147]? = some (.cells #[.int .i64 ((rd_T56 l0 x99_4).f0), .int .i64 ((rd_T56 l0 x99_4).f1), .slice A146_2 ((rd_T56 l0 x99_4).f2).length c146_2, .slice A146_3 ((rd_T56 l0 x99_4).f3).length c146_3] 56 (0, 0))) := ⟨by (with_reducible repeat (first | refine blk_drewN ?_ _ | refine blk_drew ?_ | refine blk_alloc ?_ _)); refine blk_put (cs := #[.int .i64 ((rd_T56 l0 x99_4).f0), .int .i64 ((rd_T56 l0 x99_4).f1), .slice A146_2 ((rd_T56 l0 x99_4).f2).length c146_2, .slice none 0 0]) ?_ 3 _ rfl; (with_reducible repeat (first | refine blk_drewN ?_ _ | refine blk_drew ?_ | refine blk_alloc ?_ _)); refine blk_put (cs := #[.int .i64 ((rd_T56 l0 x99_4).f0), .int .i64 ((rd_T56 l0 x99_4).f1), .slice none 0 0, .slice none 0 0]) ?_ 2 _ rfl; (with_reducible repeat (first | refine blk_drewN ?_ _ | refine blk_drew ?_ | refine blk_alloc ?_ _)); refine blk_put (cs := #[.int .i64 ((rd_T56 l0 x99_4).f0), .int .i64 0, .slice none 0 0, .slice none 0 0]) ?_ 1 _ rfl; (with_reducible repeat (first | refine blk_drewN ?_ _ | refine blk_drew ?_ | refine blk_alloc ?_ _)); refine blk_put (cs := #[.int .i64 0, .int .i64 0, .slice none 0 0, .slice none 0 0]) ?_ 0 _ rfl; (with_reducible repeat (first | refine blk_drewN ?_ _ | refine blk_drew ?_ | refine blk_alloc ?_ _)); exact BK147.out⟩
                             have n4_ : Aside0 (Below w.heap.size w ((((w105.setCell ⟨gb147, 0, none⟩ (.int .i64 ((rd_T56 l0 x99_4).f0))).setCell ⟨gb147, 1, none⟩ (.int .i64 ((rd_T56 l0 x99_4).f1))).setCell ⟨gb147, 2, none⟩ (.slice A146_2 ((rd_T56 l0 x99_4).f2).length c146_2)).setCell ⟨gb147, 3, none⟩ (.slice A146_3 ((rd_T56 l0 x99_4).f3).length c146_3))) := ⟨by repeat (first | (with_reducible first | exact HB.out | apply below_alloc | apply pw_below_drewN | apply below_drew1 | refine below_set ?_ GE147.out) | exact HB.out)⟩
                             (try clear HO_4)
                             (try clear HO_9)
                             (try clear HO_10)
                             (try clear BK147)
                             (try clear HB)
                             generalize ((((w105.setCell ⟨gb147, 0, none⟩ (.int .i64 ((rd_T56 l0 x99_4).f0))).setCell ⟨gb147, 1, none⟩ (.int .i64 ((rd_T56 l0 x99_4).f1))).setCell ⟨gb147, 2, none⟩ (.slice A146_2 ((rd_T56 l0 x99_4).f2).length c146_2)).setCell ⟨gb147, 3, none⟩ (.slice A146_3 ((rd_T56 l0 x99_4).f3).length c146_3)) = w107 at n0_ n1_ n2_ n3_ n4_ ⊢
                             have HO_4 := n0_
                             have HO_9 := n1_
                             have HO_10 := n2_
                             have BK147 := n3_
                             have HB := n4_
                             clear n0_ n1_ n2_ n3_ n4_
                             have n0_ := Aside0.mk (Kd.R_drew HO_4.out)
                             have n1_ := Aside0.mk (Kd.R_drew HO_9.out)
                             have n2_ := Aside0.mk (Kd.R_drew HO_10.out)
                             have n3_ := Aside0.mk (blk_drew BK147.out)
                             have n4_ := Aside0.mk (below_drew1 HB.out)
                             clear HO_4
                             clear HO_9
                             clear HO_10
                             clear BK147
                             clear HB
                             have HO_4 := n0_
                             have HO_9 := n1_
                             have HO_10 := n2_
                             have BK147 := n3_
                             have HB := n4_
                             clear n0_ n1_ n2_ n3_ n4_
                             have p148 : 0 ≤ (x11_56 : Int) := of_decide_eq_true (by first | (with_reducible assumption) | assumption)
                             have q148 : x11_56 < (l0.length : Int) := of_decide_eq_true (by first | (with_reducible assumption) | assumption)
                             obtain ⟨ad148, A148_2, c148_2, A148_3, c148_3, e148, hx148_0, hx148_1, hx148_2, hx148_3, hl148_2, hi148_2, hl148_3, hi148_3⟩ := at_T56 HR0.out x11_56 p148 q148
                             have hw148_3 := hx148_3
                             have hw148_2 := hx148_2
                             have hw148_1 := hx148_1
                             have hw148_0 := hx148_0
                             obtain rfl : ad146 = ad148 := (by injection e148)
                             replace hx148_0 := (HB.out.cell (World.block_lt_of_cell? w _ hx148_0)).trans hx148_0
                             replace hx148_1 := (HB.out.cell (World.block_lt_of_cell? w _ hx148_1)).trans hx148_1
                             replace hx148_2 := (HB.out.cell (World.block_lt_of_cell? w _ hx148_2)).trans hx148_2
                             replace hx148_3 := (HB.out.cell (World.block_lt_of_cell? w _ hx148_3)).trans hx148_3
                             have HR148_2 := Aside0.mk hi148_2
                             have HC148_2 := Aside0.mk hl148_2
                             clear hi148_2 hl148_2
                             have HR148_3 := Aside0.mk hi148_3
                             have HC148_3 := Aside0.mk hl148_3
                             clear hi148_3 hl148_3
                             replace p148 := eq_true p148
                             replace q148 := eq_true q148
                             have p151 : 0 ≤ (x11_56 : Int) := of_decide_eq_true (by first | (with_reducible assumption) | assumption)
                             have q151 : x11_56 < (l0.length : Int) := of_decide_eq_true (by first | (with_reducible assumption) | assumption)
                             obtain ⟨ad151, A151_2, c151_2, A151_3, c151_3, e151, hx151_0, hx151_1, hx151_2, hx151_3, hl151_2, hi151_2, hl151_3, hi151_3⟩ := at_T56 HR0.out x11_56 p151 q151
                             have hw151_3 := hx151_3
                             have hw151_2 := hx151_2
                             have hw151_1 := hx151_1
                             have hw151_0 := hx151_0
                             obtain rfl : ad146 = ad151 := (by injection e151)
                             replace hx151_0 := (HB.out.cell (World.block_lt_of_cell? w _ hx151_0)).trans hx151_0
                             replace hx151_1 := (HB.out.cell (World.block_lt_of_cell? w _ hx151_1)).trans hx151_1
                             replace hx151_2 := (HB.out.cell (World.block_lt_of_cell? w _ hx151_2)).trans hx151_2
                             replace hx151_3 := (HB.out.cell (World.block_lt_of_cell? w _ hx151_3)).trans hx151_3
                             have HR151_2 := Aside0.mk hi151_2
                             have HC151_2 := Aside0.mk hl151_2
                             clear hi151_2 hl151_2
                             have HR151_3 := Aside0.mk hi151_3
                             have HC151_3 := Aside0.mk hl151_3
                             clear hi151_3 hl151_3
                             replace p151 := eq_true p151
                             replace q151 := eq_true q151
                             have ea_ := Option.some.inj (hx148_2.symm.trans hx151_2)
                             injection ea_ with ea_ en_ ec_
                             subst ea_
                             subst ec_
                             clear en_
                             have ea_ := Option.some.inj (hx148_3.symm.trans hx151_3)
                             injection ea_ with ea_ en_ ec_
                             subst ea_
                             subst ec_
                             clear en_
                             refine start_ (n := 21) (S := fun w' => w'.cell? ⟨gb147, 0, none⟩ = some (.int .i64 ((rd_T56 l0 x99_4).f0)) ∧ w'.cell? ⟨gb147, 1, none⟩ = some (.int .i64 ((rd_T56 l0 x99_4).f1)) ∧ w'.cell? ⟨gb147, 2, none⟩ = some (.slice A146_2 ((rd_T56 l0 x99_4).f2).length c146_2) ∧ w'.cell? ⟨gb147, 3, none⟩ = some (.slice A146_3 ((rd_T56 l0 x99_4).f3).length c146_3) ∧ w'.cell? (ad146.add ((x11_56).toNat * 4)) = some (.int .i64 ((rd_T56 l0 x11_56).f0)) ∧ w'.cell? ⟨(ad146.add ((x11_56).toNat * 4)).block, (ad146.add ((x11_56).toNat * 4)).off + 1, none⟩ = some (.int .i64 ((rd_T56 l0 x11_56).f1)) ∧ w'.cell? ⟨(ad146.add ((x11_56).toNat * 4)).block, (ad146.add ((x11_56).toNat * 4)).off + 2, none⟩ = some (.slice A148_2 ((rd_T56 l0 x11_56).f2).length c148_2) ∧ w'.cell? ⟨(ad146.add ((x11_56).toNat * 4)).block, (ad146.add ((x11_56).toNat * 4)).off + 3, none⟩ = some (.slice A148_3 ((rd_T56 l0 x11_56).f3).length c148_3) ∧ w'.cell? (ad146.add ((x11_56).toNat * 4)) = some (.int .i64 ((rd_T56 l0 x11_56).f0)) ∧ w'.cell? ⟨(ad146.add ((x11_56).toNat * 4)).block, (ad146.add ((x11_56).toNat * 4)).off + 1, none⟩ = some (.int .i64 ((rd_T56 l0 x11_56).f1)) ∧ w'.cell? ⟨(ad146.add ((x11_56).toNat * 4)).block, (ad146.add ((x11_56).toNat * 4)).off + 2, none⟩ = some (.slice A148_2 ((rd_T56 l0 x11_56).f2).length c148_2) ∧ w'.cell? ⟨(ad146.add ((x11_56).toNat * 4)).block, (ad146.add ((x11_56).toNat * 4)).off + 3, none⟩ = some (.slice A148_3 ((rd_T56 l0 x11_56).f3).length c148_3)) (ds := []) #[false, false, false, false, false, false, false, false, false, false, false, false, false, false, false, false, false, false, false, false, false] (by kernel_rfl) rfl rfl ⟨(blk_cell BK147.out 0).trans rfl, (blk_cell BK147.out 1).trans rfl, (blk_cell BK147.out 2).trans rfl, (blk_cell BK147.out 3).trans rfl, ((HB.out.cell (World.block_lt_of_cell? w _ hw148_0)).trans hw148_0), ((HB.out.cell (World.block_lt_of_cell? w _ hw148_1)).trans hw148_1), ((HB.out.cell (World.block_lt_of_cell? w _ hw148_2)).trans hw148_2), ((HB.out.cell (World.block_lt_of_cell? w _ hw148_3)).trans hw148_3), ((HB.out.cell (World.block_lt_of_cell? w _ hw151_0)).trans hw151_0), ((HB.out.cell (World.block_lt_of_cell? w _ hw151_1)).trans hw151_1), ((HB.out.cell (World.block_lt_of_cell? w _ hw151_2)).trans hw151_2), ((HB.out.cell (World.block_lt_of_cell? w _ hw151_3)).trans hw151_3)⟩ (fun hHeld => ?_); refine with_tabW spec_SerialOrder.tab31 spec_SerialOrder.bits31 (fun HT_ HW_ => ?_)
                             generalize w107.drew = w108 at HO_4 HO_9 HO_10 BK147 HB HR148_2 HR148_3 HR151_2 HR151_3 hx148_0 hx148_1 hx148_2 hx148_3 hx151_0 hx151_1 hx151_2 hx151_3 hHeld ⊢
                             refine pure_ (i := 0) (N := some 104) (v := ?_) (a' := ?_) #[true, false, false, false, false, false, false, false, false, false, false, false, false, false, false, false, false, false, false, false, false] rfl rfl (any_of HT_.out (by kernel_rfl)) (fun _ _ _ h => h) (Or.inl ⟨by rfl, ?_⟩) ?_ ?_
                             rotate_left
                             ·intro w'
                              go_simp
                              with_reducible rfl
                             rotate_left
                             ·simp only [Act.put, List.setIfInBounds_toArray, List.set_cons_zero, List.set_cons_succ, i64_w, i32_w]
                              rfl
                             refine pure_ (i := 1) (N := some 105) (v := ?_) (a' := ?_) #[true, true, false, false, false, false, false, false, false, false, false, false, false, false, false, false, false, false, false, false, false] rfl rfl (any_of HT_.out (by kernel_rfl)) (fun _ _ _ h => h) (Or.inl ⟨by rfl, ?_⟩) ?_ ?_
                             rotate_left
                             ·intro w'
                              go_simp
                              with_reducible rfl
                             rotate_left
                             ·simp only [Act.put, List.setIfInBounds_toArray, List.set_cons_zero, List.set_cons_succ, i64_w, i32_w]
                              rfl
                             refine pure_ (i := 2) (N := some 106) (v := ?_) (a' := ?_) #[true, true, true, false, false, false, false, false, false, false, false, false, false, false, false, false, false, false, false, false, false] rfl rfl (any_of HT_.out (by kernel_rfl)) (fun _ _ _ h => h) (Or.inl ⟨by rfl, ?_⟩) ?_ ?_
                             rotate_left
                             ·intro w'
                              go_simp
                              with_reducible rfl
                             rotate_left
                             ·simp only [Act.put, List.setIfInBounds_toArray, List.set_cons_zero, List.set_cons_succ, i64_w, i32_w]
                              rfl
                             refine pure_ (i := 3) (N := some 107) (v := ?_) (a' := ?_) #[true, true, true, true, false, false, false, false, false, false, false, false, false, false, false, false, false, false, false, false, false] rfl rfl (any_of HT_.out (by kernel_rfl)) (fun _ _ _ h => h) (Or.inl ⟨by rfl, ?_⟩) ?_ ?_
                             rotate_left
                             ·intro w'
                              go_simp
                              with_reducible rfl
                             rotate_left
                             ·simp only [Act.put, List.setIfInBounds_toArray, List.set_cons_zero, List.set_cons_succ, i64_w, i32_w]
                              rfl
                             refine pure_ (i := 4) (N := some 108) (v := ?_) (a' := ?_) #[true, true, true, true, true, false, false, false, false, false, false, false, false, false, false, false, false, false, false, false, false] rfl rfl (any_of HT_.out (by kernel_rfl)) (fun _ _ _ h => h) (Or.inl ⟨by rfl, ?_⟩) ?_ ?_
                             rotate_left
                             ·intro w'
                              go_simp
                              with_reducible rfl
                             rotate_left
                             ·simp only [Act.put, List.setIfInBounds_toArray, List.set_cons_zero, List.set_cons_succ, i64_w, i32_w]
                              rfl
                             refine pure_ (i := 5) (N := some 109) (v := ?_) (a' := ?_) #[true, true, true, true, true, true, false, false, false, false, false, false, false, false, false, false, false, false, false, false, false] rfl rfl (any_of HT_.out (by kernel_rfl)) (fun _ _ _ h => h) (Or.inl ⟨by rfl, ?_⟩) ?_ ?_
                             rotate_left
                             ·intro w'
                              go_simp
                              with_reducible rfl
                             rotate_left
                             ·simp only [Act.put, List.setIfInBounds_toArray, List.set_cons_zero, List.set_cons_succ, i64_w, i32_w]
                              rfl
                             refine pure_ (i := 6) (N := some 110) (v := ?_) (a' := ?_) #[true, true, true, true, true, true, true, false, false, false, false, false, false, false, false, false, false, false, false, false, false] rfl rfl (any_of HT_.out (by kernel_rfl)) (fun _ _ _ h => h) (Or.inl ⟨by rfl, ?_⟩) ?_ ?_
                             rotate_left
                             ·intro w'
                              go_simp
                              with_reducible rfl
                             rotate_left
                             ·simp only [Act.put, List.setIfInBounds_toArray, List.set_cons_zero, List.set_cons_succ, i64_w, i32_w]
                              rfl
                             refine pure_ (i := 7) (N := some 111) (v := ?_) (a' := ?_) #[true, true, true, true, true, true, true, true, false, false, false, false, false, false, false, false, false, false, false, false, false] rfl rfl (any_of HT_.out (by kernel_rfl)) (fun _ _ _ h => h) (Or.inl ⟨by rfl, ?_⟩) ?_ ?_
                             rotate_left
                             ·intro w'
                              go_simp
                              with_reducible rfl
                             rotate_left
                             ·simp only [Act.put, List.setIfInBounds_toArray, List.set_cons_zero, List.set_cons_succ, i64_w, i32_w]
                              rfl
                             refine pure_ (i := 9) (N := some 113) (v := ?_) (a' := ?_) #[true, true, true, true, true, true, true, true, false, true, false, false, false, false, false, false, false, false, false, false, false] rfl rfl (any_of HT_.out (by kernel_rfl)) (fun _ _ _ h => h) (Or.inl ⟨by rfl, ?_⟩) ?_ ?_
                             rotate_left
                             ·intro w'
                              go_simp
                              with_reducible rfl
                             rotate_left
                             ·simp only [Act.put, List.setIfInBounds_toArray, List.set_cons_zero, List.set_cons_succ, i64_w, i32_w]
                              rfl
                             refine take_ (i := 8) (N := some 112) (v := ?_) (a' := ?_) #[true, true, true, true, true, true, true, true, true, true, false, false, false, false, false, false, false, false, false, false, false] rfl rfl (take_ofW HT_.out HW_.out (by kernel_rfl)) (fun _ _ _ h => h) (Or.inl ⟨by rfl, ?_⟩) hHeld ?_ ?_
                             rotate_left
                             ·rintro w' ⟨s0, s1, s2, s3, s4, s5, s6, s7, s8, s9, s10, s11⟩
                              go_simp
                              with_reducible rfl
                             rotate_left
                             ·simp only [Act.put, List.setIfInBounds_toArray, List.set_cons_zero, List.set_cons_succ, i64_w, i32_w]
                              rfl
                             refine take_ (i := 10) (N := some 114) (v := ?_) (a' := ?_) #[true, true, true, true, true, true, true, true, true, true, true, false, false, false, false, false, false, false, false, false, false] rfl rfl (take_ofW HT_.out HW_.out (by kernel_rfl)) (fun _ _ _ h => h) (Or.inl ⟨by rfl, ?_⟩) hHeld ?_ ?_
                             rotate_left
                             ·rintro w' ⟨s0, s1, s2, s3, s4, s5, s6, s7, s8, s9, s10, s11⟩
                              go_simp
                              with_reducible rfl
                             rotate_left
                             ·simp only [Act.put, List.setIfInBounds_toArray, List.set_cons_zero, List.set_cons_succ, i64_w, i32_w]
                              rfl
                             refine pure_ (i := 11) (N := some 115) (v := ?_) (a' := ?_) #[true, true, true, true, true, true, true, true, true, true, true, true, false, false, false, false, false, false, false, false, false] rfl rfl (any_of HT_.out (by kernel_rfl)) (fun _ _ _ h => h) (Or.inl ⟨by rfl, ?_⟩) ?_ ?_
                             rotate_left
                             ·intro w'
                              go_simp
                              with_reducible rfl
                             rotate_left
                             ·simp only [Act.put, List.setIfInBounds_toArray, List.set_cons_zero, List.set_cons_succ, i64_w, i32_w]
                              rfl
                             refine pure_ (i := 12) (N := some 116) (v := ?_) (a' := ?_) #[true, true, true, true, true, true, true, true, true, true, true, true, true, false, false, false, false, false, false, false, false] rfl rfl (any_of HT_.out (by kernel_rfl)) (fun _ _ _ h => h) (Or.inl ⟨by rfl, ?_⟩) ?_ ?_
                             rotate_left
                             ·intro w'
                              go_simp
                              with_reducible rfl
                             rotate_left
                             ·simp only [Act.put, List.setIfInBounds_toArray, List.set_cons_zero, List.set_cons_succ, i64_w, i32_w]
                              rfl
                             refine pure_ (i := 13) (N := some 117) (v := ?_) (a' := ?_) #[true, true, true, true, true, true, true, true, true, true, true, true, true, true, false, false, false, false, false, false, false] rfl rfl (any_of HT_.out (by kernel_rfl)) (fun _ _ _ h => h) (Or.inl ⟨by rfl, ?_⟩) ?_ ?_
                             rotate_left
                             ·intro w'
                              go_simp
                              with_reducible rfl
                             rotate_left
                             ·simp only [Act.put, List.setIfInBounds_toArray, List.set_cons_zero, List.set_cons_succ, i64_w, i32_w]
                              rfl
                             refine pure_ (i := 14) (N := some 118) (v := ?_) (a' := ?_) #[true, true, true, true, true, true, true, true, true, true, true, true, true, true, true, false, false, false, false, false, false] rfl rfl (any_of HT_.out (by kernel_rfl)) (fun _ _ _ h => h) (Or.inl ⟨by rfl, ?_⟩) ?_ ?_
                             rotate_left
                             ·intro w'
                              go_simp
                              with_reducible rfl
                             rotate_left
                             ·simp only [Act.put, List.setIfInBounds_toArray, List.set_cons_zero, List.set_cons_succ, i64_w, i32_w]
                              rfl
                             refine pure_ (i := 15) (N := some 119) (v := ?_) (a' := ?_) #[true, true, true, true, true, true, true, true, true, true, true, true, true, true, true, true, false, false, false, false, false] rfl rfl (any_of HT_.out (by kernel_rfl)) (fun _ _ _ h => h) (Or.inl ⟨by rfl, ?_⟩) ?_ ?_
                             rotate_left
                             ·intro w'
                              go_simp
                              with_reducible rfl
                             rotate_left
                             ·simp only [Act.put, List.setIfInBounds_toArray, List.set_cons_zero, List.set_cons_succ, i64_w, i32_w]
                              rfl
                             refine take_ (i := 16) (N := some 120) (v := ?_) (a' := ?_) #[true, true, true, true, true, true, true, true, true, true, true, true, true, true, true, true, true, false, false, false, false] rfl rfl (take_ofW HT_.out HW_.out (by kernel_rfl)) (fun _ _ _ h => h) (Or.inl ⟨by rfl, ?_⟩) hHeld ?_ ?_
                             rotate_left
                             ·rintro w' ⟨s0, s1, s2, s3, s4, s5, s6, s7, s8, s9, s10, s11⟩
                              go_simp
                              with_reducible rfl
                             rotate_left
                             ·simp only [Act.put, List.setIfInBounds_toArray, List.set_cons_zero, List.set_cons_succ, i64_w, i32_w]
                              rfl
                             refine take_ (i := 17) (N := some 121) (v := ?_) (a' := ?_) #[true, true, true, true, true, true, true, true, true, true, true, true, true, true, true, true, true, true, false, false, false] rfl rfl (take_ofW HT_.out HW_.out (by kernel_rfl)) (fun _ _ _ h => h) (Or.inl ⟨by rfl, ?_⟩) hHeld ?_ ?_
                             rotate_left
                             ·rintro w' ⟨s0, s1, s2, s3, s4, s5, s6, s7, s8, s9, s10, s11⟩
                              go_simp
                              with_reducible rfl
                             rotate_left
                             ·simp only [Act.put, List.setIfInBounds_toArray, List.set_cons_zero, List.set_cons_succ, i64_w, i32_w]
                              rfl
                             refine one_ (i := 18) (N := some 122) #[true, true, true, true, true, true, true, true, true, true, true, true, true, true, true, true, true, true, true, false, false] rfl rfl (one_of HT_.out (by kernel_rfl)) (by decide) (fun K hK => ?_)
                             refine goes_ Try.func28 (by kernel_rfl) rfl #[.agg #[.int .i64 ((rd_T56 l0 x11_56).f0), .int .i64 ((rd_T56 l0 x11_56).f1), .slice A148_2 ((rd_T56 l0 x11_56).f2).length c148_2, .slice A148_3 ((rd_T56 l0 x11_56).f3).length c148_3], .agg #[.int .i64 ((rd_T56 l0 x99_4).f0), .int .i64 ((rd_T56 l0 x99_4).f1), .slice A146_2 ((rd_T56 l0 x99_4).f2).length c146_2, .slice A146_3 ((rd_T56 l0 x99_4).f3).length c146_3]] (by rfl) rfl rfl (by (try simp only [List.map_toArray, List.map_cons, List.map_nil]); first | done | rfl | (simp only [List.length_drop, List.length_take]; rfl)) ?_
                             with_reducible refine (spec_l15Leads.calls k4 ((rd_T56 l0 x11_56).f0) ((rd_T56 l0 x11_56).f1) _ _ ((rd_T56 l0 x11_56).f2) _ _ ((rd_T56 l0 x11_56).f3) ((rd_T56 l0 x99_4).f0) ((rd_T56 l0 x99_4).f1) _ _ ((rd_T56 l0 x99_4).f2) _ _ ((rd_T56 l0 x99_4).f3) true _ ?side1 ?side2 ?side3 ?side4 ?side5 ?side6 ?side7 ?side8 A101.out).mono ?_
                             (case side1 => repeat (first | exact (Kd.C_below HR151_2.out HB.out) | (with_reducible refine Kd.C_alloc ?_ _) | (with_reducible refine Kd.C_drewN ?_ _) | (with_reducible refine Kd.C_drew ?_)))
                             (case side2 => exact HC151_2.out)
                             (case side3 => repeat (first | exact (Kd.C_below HR151_3.out HB.out) | (with_reducible refine Kd.C_alloc ?_ _) | (with_reducible refine Kd.C_drewN ?_ _) | (with_reducible refine Kd.C_drew ?_)))
                             (case side4 => exact HC151_3.out)
                             (case side5 => repeat (first | exact (Kd.C_below HR146_2.out HB.out) | (with_reducible refine Kd.C_alloc ?_ _) | (with_reducible refine Kd.C_drewN ?_ _) | (with_reducible refine Kd.C_drew ?_)))
                             (case side6 => exact HC146_2.out)
                             (case side7 => repeat (first | exact (Kd.C_below HR146_3.out HB.out) | (with_reducible refine Kd.C_alloc ?_ _) | (with_reducible refine Kd.C_drewN ?_ _) | (with_reducible refine Kd.C_drew ?_)))
                             (case side8 => exact HC146_3.out)
                             rintro e w109 ⟨rfl, hb⟩
                             refine ⟨_, rfl, ?_⟩
                             have n0_ := Aside0.mk (Kd.R_below (by (with_reducible repeat (first | apply Kd.R_alloc | apply Kd.R_drewN | apply Kd.R_drew)); exact HO_4.out) hb)
                             have n1_ := Aside0.mk (Kd.R_below (by (with_reducible repeat (first | apply Kd.R_alloc | apply Kd.R_drewN | apply Kd.R_drew)); exact HO_9.out) hb)
                             have n2_ := Aside0.mk (Kd.R_below (by (with_reducible repeat (first | apply Kd.R_alloc | apply Kd.R_drewN | apply Kd.R_drew)); exact HO_10.out) hb)
                             have n3_ := Aside0.mk (blk_below (g := gb147) (o := .cells #[.int .i64 ((rd_T56 l0 x99_4).f0), .int .i64 ((rd_T56 l0 x99_4).f1), .slice A146_2 ((rd_T56 l0 x99_4).f2).length c146_2, .slice A146_3 ((rd_T56 l0 x99_4).f3).length c146_3] 56 (0, 0)) (by (with_reducible repeat (first | refine blk_drewN ?_ _ | refine blk_drew ?_ | refine blk_alloc ?_ _)); exact BK147.out) hb)
                             have n4_ := Aside0.mk (below_step (by repeat (first | (with_reducible first | exact HB.out | apply below_alloc | apply pw_below_drewN | apply below_drew1 | refine below_set ?_ GE147.out) | exact HB.out)) hb)
                             clear HO_4
                             clear HO_9
                             clear HO_10
                             clear BK147
                             clear HB
                             have HO_4 := n0_
                             have HO_9 := n1_
                             have HO_10 := n2_
                             have BK147 := n3_
                             have HB := n4_
                             clear n0_ n1_ n2_ n3_ n4_
                             (try clear hb)
                             (try clear hb2)
                             (try clear hk)
                             (try clear hi)
                             refine hK.out _ _ ⟨(blk_cell BK147.out 0).trans rfl, (blk_cell BK147.out 1).trans rfl, (blk_cell BK147.out 2).trans rfl, (blk_cell BK147.out 3).trans rfl, ((HB.out.cell (World.block_lt_of_cell? w _ hw148_0)).trans hw148_0), ((HB.out.cell (World.block_lt_of_cell? w _ hw148_1)).trans hw148_1), ((HB.out.cell (World.block_lt_of_cell? w _ hw148_2)).trans hw148_2), ((HB.out.cell (World.block_lt_of_cell? w _ hw148_3)).trans hw148_3), ((HB.out.cell (World.block_lt_of_cell? w _ hw151_0)).trans hw151_0), ((HB.out.cell (World.block_lt_of_cell? w _ hw151_1)).trans hw151_1), ((HB.out.cell (World.block_lt_of_cell? w _ hw151_2)).trans hw151_2), ((HB.out.cell (World.block_lt_of_cell? w _ hw151_3)).trans hw151_3)⟩ (fun hHeld => ?_)
                             clear hK K
                             refine norm_ (a' := ?_) ?_ ?_
                             rotate_left
                             ·show Act.put _ (some 122) _ = _
                              simp only [Act.put, List.setIfInBounds_toArray, List.set_cons_zero, List.set_cons_succ, i64_w, i32_w]
                              rfl
                             refine pure_ (i := 19) (N := some 123) (v := ?_) (a' := ?_) #[true, true, true, true, true, true, true, true, true, true, true, true, true, true, true, true, true, true, true, true, false] rfl rfl (any_of HT_.out (by kernel_rfl)) (fun _ _ _ h => h) (Or.inl ⟨by rfl, ?_⟩) ?_ ?_
                             rotate_left
                             ·intro w'
                              go_simp
                              with_reducible rfl
                             rotate_left
                             ·simp only [Act.put, List.setIfInBounds_toArray, List.set_cons_zero, List.set_cons_succ, i64_w, i32_w]
                              rfl
                             refine pure_ (i := 20) (N := some 124) (v := ?_) (a' := ?_) #[true, true, true, true, true, true, true, true, true, true, true, true, true, true, true, true, true, true, true, true, true] rfl rfl (any_of HT_.out (by kernel_rfl)) (fun _ _ _ h => h) (Or.inl ⟨by rfl, ?_⟩) ?_ ?_
                             rotate_left
                             ·intro w'
                              go_simp
                              with_reducible rfl
                             rotate_left
                             ·simp only [Act.put, List.setIfInBounds_toArray, List.set_cons_zero, List.set_cons_succ, i64_w, i32_w]
                              rfl
                             refine done_ (done_of HT_.out (by kernel_rfl)) ?_
                             obtain ⟨Ao110, co110, eo110⟩ := Kd.R_slice HO_4.out
                             subst eo110
                             have p153 : 0 ≤ (x99_4 : Int) := of_decide_eq_true (by first | (with_reducible assumption) | assumption)
                             have q153 : x99_4 < (x4_4.length : Int) := of_decide_eq_true (by first | (with_reducible assumption) | assumption)
                             obtain ⟨ad153, e153, hx153_0⟩ := Kd.at_int (Kd.R_reads' HO_4.out).2.2 x99_4 p153 q153
                             cases e153
                             replace p153 := eq_true p153
                             replace q153 := eq_true q153
                             have p104 : 0 ≤ (x99_4 : Int) := of_decide_eq_true (by first | (with_reducible assumption) | assumption)
                             have q104 : (x99_4 : Int) < ((x4_4.length : Int) : Int) := of_decide_eq_true (by first | (with_reducible assumption) | assumption)
                             obtain ⟨go104, co104, eo104, gb104, gl104, cl104, HG104⟩ := Kd.R_form HO_4.out (by omega)
                             (first | cases eo104 | (injection eo104 with ea_ en_ ec_; (first | subst ea_ | (injection ea_ with ea_; subst ea_)); subst ec_; clear en_))
                             have GB104 := Aside0.mk gb104
                             have GG104 := Aside0.mk HG104
                             clear gb104 gl104 HG104
                             (first | simp only [add_plain] at hx153_0 | skip)
                             obtain ⟨hx104_0, hf104_0⟩ := Kd.R_celln 0 HO_4.out (x99_4 : Int) p104 q104
                             replace p104 := eq_true p104
                             replace q104 := eq_true q104
                             obtain ⟨hy111_, hz111_⟩ := Kd.R_celln 0 HO_4.out (x99_4 : Int) (of_decide_eq_true (by first | (with_reducible assumption) | assumption)) (of_decide_eq_true (by first | (with_reducible assumption) | assumption))
                             have HP111 := Kd.R_putg HO_4.out (x99_4 : Int) (wrap64 ((rd x4_4 x99_4) - 1))
                             try go_wp2_with (first | ((with_reducible refine gate_store (t := 3) (p := 130) rfl ?_); refine store_event (t := 3) (p := 130) (v := ?vo_w112) (w1 := (w109.setCell ⟨go104, (x99_4 : Int).toNat, none⟩ (.int .i64 (wrap64 ((rd x4_4 x99_4) - 1))))) ?hg ?ho ?hn ?hr ?_; (case ho => rfl); (case hg => rfl); (case hn => rfl); (case hr => first | (go_simp; done) | (go_simp; rfl)); intro w112 hw; have hg : w109.grownBy w112 (some go104) := (by rw [hw]; exact HP111.2); have hp_ : Kd.R (Kd.int .i64) 3 w112 w.heap.size (fun k_ => some k_ ≠ (v144 : Value).ownBlock) (.slice (some ⟨go104, 0, none⟩) x4_4.length co110) y154 := (by rw [hw, Ny154.out]; exact HP111.1); clear HP111; have n0_ := Aside0.mk (hp_); have n1_ := Aside0.mk (Kd.R_after (v := (.slice (some ⟨go104, 0, none⟩) x4_4.length co110)) (v1 := (.slice (some ⟨go104, 0, none⟩) x4_4.length co110)) (ok := (fun _ => True)) (by (with_reducible repeat (first | apply Kd.R_alloc | apply Kd.R_drewN | apply Kd.R_drew)); exact Kd.R_mono HO_9.out (fun _ hk => ⟨trivial, hk⟩)) hg (.inl rfl)); have n2_ := Aside0.mk (Kd.R_over' (v := (.slice (some ⟨go104, 0, none⟩) x4_4.length co110)) (by (with_reducible repeat (first | apply Kd.R_alloc | apply Kd.R_drewN | apply Kd.R_drew)); exact HO_10.out) (Kd.R_typed HO_4.out) (by decide) hg); have n3_ := Aside0.mk (blk_grown (g := gb147) (o := .cells #[.int .i64 ((rd_T56 l0 x99_4).f0), .int .i64 ((rd_T56 l0 x99_4).f1), .slice A146_2 ((rd_T56 l0 x99_4).f2).length c146_2, .slice A146_3 ((rd_T56 l0 x99_4).f3).length c146_3] 56 (0, 0)) (by (with_reducible repeat (first | refine blk_drewN ?_ _ | refine blk_drew ?_ | refine blk_alloc ?_ _)); exact BK147.out) hg (Kd.R_ne HO_4.out BK147.out (by decide))); have n4_ := Aside0.mk ((by rw [hw]; exact below_set (HB.out) GB104.out : Below w.heap.size w w112)); clear HO_4; clear HO_9; clear HO_10; clear BK147; clear HB; have HO_4 := n0_; have HO_9 := n1_; have HO_10 := n2_; have BK147 := n3_; have HB := n4_; clear n0_ n1_ n2_ n3_ n4_; clear hg hw hp_))
                             (try simp only [← hl10_4])
                             go_roundg k4
                             case measure => have := HK1.out; have := HK2.out; have := HJ56.out; have := HK4.out; omega
                             case rel => exact ⟨(y154), (wrap64 (x99_4 + 1)), (by first | rfl | (simp; done) | (simp [*]; done)), H', ⟨by have := HK1.out; have := HK2.out; have := HJ56.out; have := HK4.out; omega⟩, ⟨by (try simp only [hl10_4]); (with_reducible repeat (first | apply Kd.R_alloc | apply Kd.R_drewN | apply Kd.R_drew)); exact HO_4.out⟩, ⟨by (try simp only [hl10_4]); (with_reducible repeat (first | apply Kd.R_alloc | apply Kd.R_drewN | apply Kd.R_drew)); exact Kd.R_mono HO_9.out (fun _ hk => hk.2)⟩, ⟨by (try simp only [hl10_4]); (with_reducible repeat (first | apply Kd.R_alloc | apply Kd.R_drewN | apply Kd.R_drew)); exact HO_10.out⟩, ⟨by repeat (first | (with_reducible first | exact HB.out | apply below_alloc | apply pw_below_drewN | apply below_drew1 | refine below_set ?_ GE147.out) | exact HB.out)⟩⟩
                            ·rw [if_neg c103] at H
                             exact absurd H (by simp)
                           ·replace c102 := Bool.eq_false_iff.mpr c102
                            subst c102
                            have H1 : (spec_SerialOrder.l4 k4 l0 x4_4 y143 y142 x11_56 l0 (l0.length : Int) (wrap64 (x99_4 + 1))) = some (r1, r2) := by rw [if_neg (show ¬ (false = true) by decide)] at H; exact H
                            clear H
                            have H := H1
                            clear H1
                            have H' := Aside0.mk H
                            clear H
                            have p146 : 0 ≤ (x99_4 : Int) := of_decide_eq_true (by first | (with_reducible assumption) | assumption)
                            have q146 : x99_4 < (l0.length : Int) := of_decide_eq_true (by first | (with_reducible assumption) | assumption)
                            obtain ⟨ad146, A146_2, c146_2, A146_3, c146_3, e146, hx146_0, hx146_1, hx146_2, hx146_3, hl146_2, hi146_2, hl146_3, hi146_3⟩ := at_T56 HR0.out x99_4 p146 q146
                            cases e146
                            replace hx146_0 := (HB.out.cell (World.block_lt_of_cell? w _ hx146_0)).trans hx146_0
                            replace hx146_1 := (HB.out.cell (World.block_lt_of_cell? w _ hx146_1)).trans hx146_1
                            replace hx146_2 := (HB.out.cell (World.block_lt_of_cell? w _ hx146_2)).trans hx146_2
                            replace hx146_3 := (HB.out.cell (World.block_lt_of_cell? w _ hx146_3)).trans hx146_3
                            have HR146_2 := Aside0.mk hi146_2
                            have HC146_2 := Aside0.mk hl146_2
                            clear hi146_2 hl146_2
                            have HR146_3 := Aside0.mk hi146_3
                            have HC146_3 := Aside0.mk hl146_3
                            clear hi146_3 hl146_3
                            replace p146 := eq_true p146
                            replace q146 := eq_true q146
                            try go_wp2_with (first | ((with_reducible refine gate_dst (N := 14) rfl ?_); refine box_event ?hg (N := 14) ?hd (cs := #[.int .i64 0, .int .i64 0, .slice none 0 0, .slice none 0 0]) (t := 56) ?hr ?_; (case hd => rfl); (case hg => rfl); (case hr => first | (go_simp; done) | (go_simp; rfl)); intro gb147 hg w113 hbox hb; have n0_ := Aside0.mk (Kd.R_below (by (with_reducible repeat (first | apply Kd.R_alloc | apply Kd.R_drewN | apply Kd.R_drew)); exact HO_4.out) hb); have n1_ := Aside0.mk (Kd.R_below (by (with_reducible repeat (first | apply Kd.R_alloc | apply Kd.R_drewN | apply Kd.R_drew)); exact HO_9.out) hb); have n2_ := Aside0.mk (Kd.R_below (by (with_reducible repeat (first | apply Kd.R_alloc | apply Kd.R_drewN | apply Kd.R_drew)); exact HO_10.out) hb); have n3_ := Aside0.mk (below_step (by repeat (first | (with_reducible first | exact HB.out | apply below_alloc | apply pw_below_drewN | apply below_drew1) | exact HB.out)) hb); have n4_ := Aside0.mk (hbox); have n5_ := Aside0.mk ((by rw [hg]; exact (below_size (by repeat (first | (with_reducible first | exact HB.out | apply below_alloc | apply pw_below_drewN | apply below_drew1) | exact HB.out))) : w.heap.size ≤ gb147)); have n6_ := Aside0.mk ((by rw [hg]; exact (below_size (by repeat (first | (with_reducible first | exact HB.out | apply below_alloc | apply pw_below_drewN | apply below_drew1) | exact HB.out))) : w.heap.size ≤ gb147)); clear HO_4; clear HO_9; clear HO_10; clear HB; have HO_4 := n0_; have HO_9 := n1_; have HO_10 := n2_; have HB := n3_; have BK147 := n4_; have GW147 := n5_; have GE147 := n6_; clear n0_ n1_ n2_ n3_ n4_ n5_ n6_; clear hb hbox hg; have hcz114_0 : w113.cell? ⟨gb147, 0, none⟩ = some (.int .i64 0) := (blk_cell BK147.out 0).trans rfl; have hcz114_1 : w113.cell? ⟨gb147, 1, none⟩ = some (.int .i64 0) := (blk_cell BK147.out 1).trans rfl; have hcz114_2 : w113.cell? ⟨gb147, 2, none⟩ = some (.slice none 0 0) := (blk_cell BK147.out 2).trans rfl; have hcz114_3 : w113.cell? ⟨gb147, 3, none⟩ = some (.slice none 0 0) := (blk_cell BK147.out 3).trans rfl; have hfz114_0 := blk_frozen BK147.out 0; have hfz114_1 := blk_frozen BK147.out 1; have hfz114_2 := blk_frozen BK147.out 2; have hfz114_3 := blk_frozen BK147.out 3))
                            have n0_ : Aside0 (Kd.R (Kd.int .i64) 3 ((((w113.setCell ⟨gb147, 0, none⟩ (.int .i64 ((rd_T56 l0 x99_4).f0))).setCell ⟨gb147, 1, none⟩ (.int .i64 ((rd_T56 l0 x99_4).f1))).setCell ⟨gb147, 2, none⟩ (.slice A146_2 ((rd_T56 l0 x99_4).f2).length c146_2)).setCell ⟨gb147, 3, none⟩ (.slice A146_3 ((rd_T56 l0 x99_4).f3).length c146_3)) w.heap.size (fun k_ => some k_ ≠ (v144 : Value).ownBlock) v120 x4_4) := ⟨by (with_reducible repeat (first | apply Kd.R_alloc | apply Kd.R_drewN | apply Kd.R_drew)); exact Kd.R_mono (Kd.R_far (p := ⟨gb147, 3, none⟩) (Kd.R_far (p := ⟨gb147, 2, none⟩) (Kd.R_far (p := ⟨gb147, 1, none⟩) (Kd.R_far (p := ⟨gb147, 0, none⟩) (Kd.R_types HO_4.out BK147.out (by decide)) (fun _ hk => hk.2) (.int .i64 ((rd_T56 l0 x99_4).f0))) (fun _ hk => hk.2) (.int .i64 ((rd_T56 l0 x99_4).f1))) (fun _ hk => hk.2) (.slice A146_2 ((rd_T56 l0 x99_4).f2).length c146_2)) (fun _ hk => hk.2) (.slice A146_3 ((rd_T56 l0 x99_4).f3).length c146_3)) (fun _ hk => hk.1)⟩
                            have n1_ : Aside0 (Kd.R (Kd.int .i64) 3 ((((w113.setCell ⟨gb147, 0, none⟩ (.int .i64 ((rd_T56 l0 x99_4).f0))).setCell ⟨gb147, 1, none⟩ (.int .i64 ((rd_T56 l0 x99_4).f1))).setCell ⟨gb147, 2, none⟩ (.slice A146_2 ((rd_T56 l0 x99_4).f2).length c146_2)).setCell ⟨gb147, 3, none⟩ (.slice A146_3 ((rd_T56 l0 x99_4).f3).length c146_3)) w.heap.size (fun k_ => some k_ ≠ (v120 : Value).ownBlock) v144 y143) := ⟨by (with_reducible repeat (first | apply Kd.R_alloc | apply Kd.R_drewN | apply Kd.R_drew)); exact Kd.R_mono (Kd.R_far (p := ⟨gb147, 3, none⟩) (Kd.R_far (p := ⟨gb147, 2, none⟩) (Kd.R_far (p := ⟨gb147, 1, none⟩) (Kd.R_far (p := ⟨gb147, 0, none⟩) (Kd.R_types HO_9.out BK147.out (by decide)) (fun _ hk => hk.2) (.int .i64 ((rd_T56 l0 x99_4).f0))) (fun _ hk => hk.2) (.int .i64 ((rd_T56 l0 x99_4).f1))) (fun _ hk => hk.2) (.slice A146_2 ((rd_T56 l0 x99_4).f2).length c146_2)) (fun _ hk => hk.2) (.slice A146_3 ((rd_T56 l0 x99_4).f3).length c146_3)) (fun _ hk => hk.1)⟩
                            have n2_ : Aside0 (Kd.R Kd.bool 4 ((((w113.setCell ⟨gb147, 0, none⟩ (.int .i64 ((rd_T56 l0 x99_4).f0))).setCell ⟨gb147, 1, none⟩ (.int .i64 ((rd_T56 l0 x99_4).f1))).setCell ⟨gb147, 2, none⟩ (.slice A146_2 ((rd_T56 l0 x99_4).f2).length c146_2)).setCell ⟨gb147, 3, none⟩ (.slice A146_3 ((rd_T56 l0 x99_4).f3).length c146_3)) w.heap.size (fun _ => True) (.slice (some ⟨go76, 0, none⟩) y142.length co76) y142) := ⟨by (with_reducible repeat (first | apply Kd.R_alloc | apply Kd.R_drewN | apply Kd.R_drew)); exact Kd.R_mono (Kd.R_far (p := ⟨gb147, 3, none⟩) (Kd.R_far (p := ⟨gb147, 2, none⟩) (Kd.R_far (p := ⟨gb147, 1, none⟩) (Kd.R_far (p := ⟨gb147, 0, none⟩) (Kd.R_types HO_10.out BK147.out (by decide)) (fun _ hk => hk.2) (.int .i64 ((rd_T56 l0 x99_4).f0))) (fun _ hk => hk.2) (.int .i64 ((rd_T56 l0 x99_4).f1))) (fun _ hk => hk.2) (.slice A146_2 ((rd_T56 l0 x99_4).f2).length c146_2)) (fun _ hk => hk.2) (.slice A146_3 ((rd_T56 l0 x99_4).f3).length c146_3)) (fun _ hk => trivial)⟩
                            have n3_ : Aside0 (((((w113.setCell ⟨gb147, 0, none⟩ (.int .i64 ((rd_T56 l0 x99_4).f0))).setCell ⟨gb147, 1, none⟩ (.int .i64 ((rd_T56 l0 x99_4).f1))).setCell ⟨gb147, 2, none⟩ (.slice A146_2 ((rd_T56 l0 x99_4).f2).length c146_2)).setCell ⟨gb147, 3, none⟩ (.slice A146_3 ((rd_T56 l0 x99_4).f3).length c146_3)).heap[gb147]? = some (.cells #[.int .i64 ((rd_T56 l0 x99_4).f0), .int .i64 ((rd_T56 l0 x99_4).f1), .slice A146_2 ((rd_T56 l0 x99_4).f2).length c146_2, .slice A146_3 ((rd_T56 l0 x99_4).f3).length c146_3] 56 (0, 0))) := ⟨by (with_reducible repeat (first | refine blk_drewN ?_ _ | refine blk_drew ?_ | refine blk_alloc ?_ _)); refine blk_put (cs := #[.int .i64 ((rd_T56 l0 x99_4).f0), .int .i64 ((rd_T56 l0 x99_4).f1), .slice A146_2 ((rd_T56 l0 x99_4).f2).length c146_2, .slice none 0 0]) ?_ 3 _ rfl; (with_reducible repeat (first | refine blk_drewN ?_ _ | refine blk_drew ?_ | refine blk_alloc ?_ _)); refine blk_put (cs := #[.int .i64 ((rd_T56 l0 x99_4).f0), .int .i64 ((rd_T56 l0 x99_4).f1), .slice none 0 0, .slice none 0 0]) ?_ 2 _ rfl; (with_reducible repeat (first | refine blk_drewN ?_ _ | refine blk_drew ?_ | refine blk_alloc ?_ _)); refine blk_put (cs := #[.int .i64 ((rd_T56 l0 x99_4).f0), .int .i64 0, .slice none 0 0, .slice none 0 0]) ?_ 1 _ rfl; (with_reducible repeat (first | refine blk_drewN ?_ _ | refine blk_drew ?_ | refine blk_alloc ?_ _)); refine blk_put (cs := #[.int .i64 0, .int .i64 0, .slice none 0 0, .slice none 0 0]) ?_ 0 _ rfl; (with_reducible repeat (first | refine blk_drewN ?_ _ | refine blk_drew ?_ | refine blk_alloc ?_ _)); exact BK147.out⟩
                            have n4_ : Aside0 (Below w.heap.size w ((((w113.setCell ⟨gb147, 0, none⟩ (.int .i64 ((rd_T56 l0 x99_4).f0))).setCell ⟨gb147, 1, none⟩ (.int .i64 ((rd_T56 l0 x99_4).f1))).setCell ⟨gb147, 2, none⟩ (.slice A146_2 ((rd_T56 l0 x99_4).f2).length c146_2)).setCell ⟨gb147, 3, none⟩ (.slice A146_3 ((rd_T56 l0 x99_4).f3).length c146_3))) := ⟨by repeat (first | (with_reducible first | exact HB.out | apply below_alloc | apply pw_below_drewN | apply below_drew1 | refine below_set ?_ GE147.out) | exact HB.out)⟩
                            (try clear HO_4)
                            (try clear HO_9)
                            (try clear HO_10)
                            (try clear BK147)
                            (try clear HB)
                            generalize ((((w113.setCell ⟨gb147, 0, none⟩ (.int .i64 ((rd_T56 l0 x99_4).f0))).setCell ⟨gb147, 1, none⟩ (.int .i64 ((rd_T56 l0 x99_4).f1))).setCell ⟨gb147, 2, none⟩ (.slice A146_2 ((rd_T56 l0 x99_4).f2).length c146_2)).setCell ⟨gb147, 3, none⟩ (.slice A146_3 ((rd_T56 l0 x99_4).f3).length c146_3)) = w115 at n0_ n1_ n2_ n3_ n4_ ⊢
                            have HO_4 := n0_
                            have HO_9 := n1_
                            have HO_10 := n2_
                            have BK147 := n3_
                            have HB := n4_
                            clear n0_ n1_ n2_ n3_ n4_
                            have n0_ := Aside0.mk (Kd.R_drew HO_4.out)
                            have n1_ := Aside0.mk (Kd.R_drew HO_9.out)
                            have n2_ := Aside0.mk (Kd.R_drew HO_10.out)
                            have n3_ := Aside0.mk (blk_drew BK147.out)
                            have n4_ := Aside0.mk (below_drew1 HB.out)
                            clear HO_4
                            clear HO_9
                            clear HO_10
                            clear BK147
                            clear HB
                            have HO_4 := n0_
                            have HO_9 := n1_
                            have HO_10 := n2_
                            have BK147 := n3_
                            have HB := n4_
                            clear n0_ n1_ n2_ n3_ n4_
                            have p148 : 0 ≤ (x11_56 : Int) := of_decide_eq_true (by first | (with_reducible assumption) | assumption)
                            have q148 : x11_56 < (l0.length : Int) := of_decide_eq_true (by first | (with_reducible assumption) | assumption)
                            obtain ⟨ad148, A148_2, c148_2, A148_3, c148_3, e148, hx148_0, hx148_1, hx148_2, hx148_3, hl148_2, hi148_2, hl148_3, hi148_3⟩ := at_T56 HR0.out x11_56 p148 q148
                            have hw148_3 := hx148_3
                            have hw148_2 := hx148_2
                            have hw148_1 := hx148_1
                            have hw148_0 := hx148_0
                            obtain rfl : ad146 = ad148 := (by injection e148)
                            replace hx148_0 := (HB.out.cell (World.block_lt_of_cell? w _ hx148_0)).trans hx148_0
                            replace hx148_1 := (HB.out.cell (World.block_lt_of_cell? w _ hx148_1)).trans hx148_1
                            replace hx148_2 := (HB.out.cell (World.block_lt_of_cell? w _ hx148_2)).trans hx148_2
                            replace hx148_3 := (HB.out.cell (World.block_lt_of_cell? w _ hx148_3)).trans hx148_3
                            have HR148_2 := Aside0.mk hi148_2
                            have HC148_2 := Aside0.mk hl148_2
                            clear hi148_2 hl148_2
                            have HR148_3 := Aside0.mk hi148_3
                            have HC148_3 := Aside0.mk hl148_3
                            clear hi148_3 hl148_3
                            replace p148 := eq_true p148
                            replace q148 := eq_true q148
                            have p151 : 0 ≤ (x11_56 : Int) := of_decide_eq_true (by first | (with_reducible assumption) | assumption)
                            have q151 : x11_56 < (l0.length : Int) := of_decide_eq_true (by first | (with_reducible assumption) | assumption)
                            obtain ⟨ad151, A151_2, c151_2, A151_3, c151_3, e151, hx151_0, hx151_1, hx151_2, hx151_3, hl151_2, hi151_2, hl151_3, hi151_3⟩ := at_T56 HR0.out x11_56 p151 q151
                            have hw151_3 := hx151_3
                            have hw151_2 := hx151_2
                            have hw151_1 := hx151_1
                            have hw151_0 := hx151_0
                            obtain rfl : ad146 = ad151 := (by injection e151)
                            replace hx151_0 := (HB.out.cell (World.block_lt_of_cell? w _ hx151_0)).trans hx151_0
                            replace hx151_1 := (HB.out.cell (World.block_lt_of_cell? w _ hx151_1)).trans hx151_1
                            replace hx151_2 := (HB.out.cell (World.block_lt_of_cell? w _ hx151_2)).trans hx151_2
                            replace hx151_3 := (HB.out.cell (World.block_lt_of_cell? w _ hx151_3)).trans hx151_3
                            have HR151_2 := Aside0.mk hi151_2
                            have HC151_2 := Aside0.mk hl151_2
                            clear hi151_2 hl151_2
                            have HR151_3 := Aside0.mk hi151_3
                            have HC151_3 := Aside0.mk hl151_3
                            clear hi151_3 hl151_3
                            replace p151 := eq_true p151
                            replace q151 := eq_true q151
                            have ea_ := Option.some.inj (hx148_2.symm.trans hx151_2)
                            injection ea_ with ea_ en_ ec_
                            subst ea_
                            subst ec_
                            clear en_
                            have ea_ := Option.some.inj (hx148_3.symm.trans hx151_3)
                            injection ea_ with ea_ en_ ec_
                            subst ea_
                            subst ec_
                            clear en_
                            refine start_ (n := 21) (S := fun w' => w'.cell? ⟨gb147, 0, none⟩ = some (.int .i64 ((rd_T56 l0 x99_4).f0)) ∧ w'.cell? ⟨gb147, 1, none⟩ = some (.int .i64 ((rd_T56 l0 x99_4).f1)) ∧ w'.cell? ⟨gb147, 2, none⟩ = some (.slice A146_2 ((rd_T56 l0 x99_4).f2).length c146_2) ∧ w'.cell? ⟨gb147, 3, none⟩ = some (.slice A146_3 ((rd_T56 l0 x99_4).f3).length c146_3) ∧ w'.cell? (ad146.add ((x11_56).toNat * 4)) = some (.int .i64 ((rd_T56 l0 x11_56).f0)) ∧ w'.cell? ⟨(ad146.add ((x11_56).toNat * 4)).block, (ad146.add ((x11_56).toNat * 4)).off + 1, none⟩ = some (.int .i64 ((rd_T56 l0 x11_56).f1)) ∧ w'.cell? ⟨(ad146.add ((x11_56).toNat * 4)).block, (ad146.add ((x11_56).toNat * 4)).off + 2, none⟩ = some (.slice A148_2 ((rd_T56 l0 x11_56).f2).length c148_2) ∧ w'.cell? ⟨(ad146.add ((x11_56).toNat * 4)).block, (ad146.add ((x11_56).toNat * 4)).off + 3, none⟩ = some (.slice A148_3 ((rd_T56 l0 x11_56).f3).length c148_3) ∧ w'.cell? (ad146.add ((x11_56).toNat * 4)) = some (.int .i64 ((rd_T56 l0 x11_56).f0)) ∧ w'.cell? ⟨(ad146.add ((x11_56).toNat * 4)).block, (ad146.add ((x11_56).toNat * 4)).off + 1, none⟩ = some (.int .i64 ((rd_T56 l0 x11_56).f1)) ∧ w'.cell? ⟨(ad146.add ((x11_56).toNat * 4)).block, (ad146.add ((x11_56).toNat * 4)).off + 2, none⟩ = some (.slice A148_2 ((rd_T56 l0 x11_56).f2).length c148_2) ∧ w'.cell? ⟨(ad146.add ((x11_56).toNat * 4)).block, (ad146.add ((x11_56).toNat * 4)).off + 3, none⟩ = some (.slice A148_3 ((rd_T56 l0 x11_56).f3).length c148_3)) (ds := []) #[false, false, false, false, false, false, false, false, false, false, false, false, false, false, false, false, false, false, false, false, false] (by kernel_rfl) rfl rfl ⟨(blk_cell BK147.out 0).trans rfl, (blk_cell BK147.out 1).trans rfl, (blk_cell BK147.out 2).trans rfl, (blk_cell BK147.out 3).trans rfl, ((HB.out.cell (World.block_lt_of_cell? w _ hw148_0)).trans hw148_0), ((HB.out.cell (World.block_lt_of_cell? w _ hw148_1)).trans hw148_1), ((HB.out.cell (World.block_lt_of_cell? w _ hw148_2)).trans hw148_2), ((HB.out.cell (World.block_lt_of_cell? w _ hw148_3)).trans hw148_3), ((HB.out.cell (World.block_lt_of_cell? w _ hw151_0)).trans hw151_0), ((HB.out.cell (World.block_lt_of_cell? w _ hw151_1)).trans hw151_1), ((HB.out.cell (World.block_lt_of_cell? w _ hw151_2)).trans hw151_2), ((HB.out.cell (World.block_lt_of_cell? w _ hw151_3)).trans hw151_3)⟩ (fun hHeld => ?_); refine with_tabW spec_SerialOrder.tab31 spec_SerialOrder.bits31 (fun HT_ HW_ => ?_)
                            generalize w115.drew = w116 at HO_4 HO_9 HO_10 BK147 HB HR148_2 HR148_3 HR151_2 HR151_3 hx148_0 hx148_1 hx148_2 hx148_3 hx151_0 hx151_1 hx151_2 hx151_3 hHeld ⊢
                            refine pure_ (i := 0) (N := some 104) (v := ?_) (a' := ?_) #[true, false, false, false, false, false, false, false, false, false, false, false, false, false, false, false, false, false, false, false, false] rfl rfl (any_of HT_.out (by kernel_rfl)) (fun _ _ _ h => h) (Or.inl ⟨by rfl, ?_⟩) ?_ ?_
                            rotate_left
                            ·intro w'
                             go_simp
                             with_reducible rfl
                            rotate_left
                            ·simp only [Act.put, List.setIfInBounds_toArray, List.set_cons_zero, List.set_cons_succ, i64_w, i32_w]
                             rfl
                            refine pure_ (i := 1) (N := some 105) (v := ?_) (a' := ?_) #[true, true, false, false, false, false, false, false, false, false, false, false, false, false, false, false, false, false, false, false, false] rfl rfl (any_of HT_.out (by kernel_rfl)) (fun _ _ _ h => h) (Or.inl ⟨by rfl, ?_⟩) ?_ ?_
                            rotate_left
                            ·intro w'
                             go_simp
                             with_reducible rfl
                            rotate_left
                            ·simp only [Act.put, List.setIfInBounds_toArray, List.set_cons_zero, List.set_cons_succ, i64_w, i32_w]
                             rfl
                            refine pure_ (i := 2) (N := some 106) (v := ?_) (a' := ?_) #[true, true, true, false, false, false, false, false, false, false, false, false, false, false, false, false, false, false, false, false, false] rfl rfl (any_of HT_.out (by kernel_rfl)) (fun _ _ _ h => h) (Or.inl ⟨by rfl, ?_⟩) ?_ ?_
                            rotate_left
                            ·intro w'
                             go_simp
                             with_reducible rfl
                            rotate_left
                            ·simp only [Act.put, List.setIfInBounds_toArray, List.set_cons_zero, List.set_cons_succ, i64_w, i32_w]
                             rfl
                            refine pure_ (i := 3) (N := some 107) (v := ?_) (a' := ?_) #[true, true, true, true, false, false, false, false, false, false, false, false, false, false, false, false, false, false, false, false, false] rfl rfl (any_of HT_.out (by kernel_rfl)) (fun _ _ _ h => h) (Or.inl ⟨by rfl, ?_⟩) ?_ ?_
                            rotate_left
                            ·intro w'
                             go_simp
                             with_reducible rfl
                            rotate_left
                            ·simp only [Act.put, List.setIfInBounds_toArray, List.set_cons_zero, List.set_cons_succ, i64_w, i32_w]
                             rfl
                            refine pure_ (i := 4) (N := some 108) (v := ?_) (a' := ?_) #[true, true, true, true, true, false, false, false, false, false, false, false, false, false, false, false, false, false, false, false, false] rfl rfl (any_of HT_.out (by kernel_rfl)) (fun _ _ _ h => h) (Or.inl ⟨by rfl, ?_⟩) ?_ ?_
                            rotate_left
                            ·intro w'
                             go_simp
                             with_reducible rfl
                            rotate_left
                            ·simp only [Act.put, List.setIfInBounds_toArray, List.set_cons_zero, List.set_cons_succ, i64_w, i32_w]
                             rfl
                            refine pure_ (i := 5) (N := some 109) (v := ?_) (a' := ?_) #[true, true, true, true, true, true, false, false, false, false, false, false, false, false, false, false, false, false, false, false, false] rfl rfl (any_of HT_.out (by kernel_rfl)) (fun _ _ _ h => h) (Or.inl ⟨by rfl, ?_⟩) ?_ ?_
                            rotate_left
                            ·intro w'
                             go_simp
                             with_reducible rfl
                            rotate_left
                            ·simp only [Act.put, List.setIfInBounds_toArray, List.set_cons_zero, List.set_cons_succ, i64_w, i32_w]
                             rfl
                            refine pure_ (i := 6) (N := some 110) (v := ?_) (a' := ?_) #[true, true, true, true, true, true, true, false, false, false, false, false, false, false, false, false, false, false, false, false, false] rfl rfl (any_of HT_.out (by kernel_rfl)) (fun _ _ _ h => h) (Or.inl ⟨by rfl, ?_⟩) ?_ ?_
                            rotate_left
                            ·intro w'
                             go_simp
                             with_reducible rfl
                            rotate_left
                            ·simp only [Act.put, List.setIfInBounds_toArray, List.set_cons_zero, List.set_cons_succ, i64_w, i32_w]
                             rfl
                            refine pure_ (i := 7) (N := some 111) (v := ?_) (a' := ?_) #[true, true, true, true, true, true, true, true, false, false, false, false, false, false, false, false, false, false, false, false, false] rfl rfl (any_of HT_.out (by kernel_rfl)) (fun _ _ _ h => h) (Or.inl ⟨by rfl, ?_⟩) ?_ ?_
                            rotate_left
                            ·intro w'
                             go_simp
                             with_reducible rfl
                            rotate_left
                            ·simp only [Act.put, List.setIfInBounds_toArray, List.set_cons_zero, List.set_cons_succ, i64_w, i32_w]
                             rfl
                            refine pure_ (i := 9) (N := some 113) (v := ?_) (a' := ?_) #[true, true, true, true, true, true, true, true, false, true, false, false, false, false, false, false, false, false, false, false, false] rfl rfl (any_of HT_.out (by kernel_rfl)) (fun _ _ _ h => h) (Or.inl ⟨by rfl, ?_⟩) ?_ ?_
                            rotate_left
                            ·intro w'
                             go_simp
                             with_reducible rfl
                            rotate_left
                            ·simp only [Act.put, List.setIfInBounds_toArray, List.set_cons_zero, List.set_cons_succ, i64_w, i32_w]
                             rfl
                            refine take_ (i := 8) (N := some 112) (v := ?_) (a' := ?_) #[true, true, true, true, true, true, true, true, true, true, false, false, false, false, false, false, false, false, false, false, false] rfl rfl (take_ofW HT_.out HW_.out (by kernel_rfl)) (fun _ _ _ h => h) (Or.inl ⟨by rfl, ?_⟩) hHeld ?_ ?_
                            rotate_left
                            ·rintro w' ⟨s0, s1, s2, s3, s4, s5, s6, s7, s8, s9, s10, s11⟩
                             go_simp
                             with_reducible rfl
                            rotate_left
                            ·simp only [Act.put, List.setIfInBounds_toArray, List.set_cons_zero, List.set_cons_succ, i64_w, i32_w]
                             rfl
                            refine take_ (i := 10) (N := some 114) (v := ?_) (a' := ?_) #[true, true, true, true, true, true, true, true, true, true, true, false, false, false, false, false, false, false, false, false, false] rfl rfl (take_ofW HT_.out HW_.out (by kernel_rfl)) (fun _ _ _ h => h) (Or.inl ⟨by rfl, ?_⟩) hHeld ?_ ?_
                            rotate_left
                            ·rintro w' ⟨s0, s1, s2, s3, s4, s5, s6, s7, s8, s9, s10, s11⟩
                             go_simp
                             with_reducible rfl
                            rotate_left
                            ·simp only [Act.put, List.setIfInBounds_toArray, List.set_cons_zero, List.set_cons_succ, i64_w, i32_w]
                             rfl
                            refine pure_ (i := 11) (N := some 115) (v := ?_) (a' := ?_) #[true, true, true, true, true, true, true, true, true, true, true, true, false, false, false, false, false, false, false, false, false] rfl rfl (any_of HT_.out (by kernel_rfl)) (fun _ _ _ h => h) (Or.inl ⟨by rfl, ?_⟩) ?_ ?_
                            rotate_left
                            ·intro w'
                             go_simp
                             with_reducible rfl
                            rotate_left
                            ·simp only [Act.put, List.setIfInBounds_toArray, List.set_cons_zero, List.set_cons_succ, i64_w, i32_w]
                             rfl
                            refine pure_ (i := 12) (N := some 116) (v := ?_) (a' := ?_) #[true, true, true, true, true, true, true, true, true, true, true, true, true, false, false, false, false, false, false, false, false] rfl rfl (any_of HT_.out (by kernel_rfl)) (fun _ _ _ h => h) (Or.inl ⟨by rfl, ?_⟩) ?_ ?_
                            rotate_left
                            ·intro w'
                             go_simp
                             with_reducible rfl
                            rotate_left
                            ·simp only [Act.put, List.setIfInBounds_toArray, List.set_cons_zero, List.set_cons_succ, i64_w, i32_w]
                             rfl
                            refine pure_ (i := 13) (N := some 117) (v := ?_) (a' := ?_) #[true, true, true, true, true, true, true, true, true, true, true, true, true, true, false, false, false, false, false, false, false] rfl rfl (any_of HT_.out (by kernel_rfl)) (fun _ _ _ h => h) (Or.inl ⟨by rfl, ?_⟩) ?_ ?_
                            rotate_left
                            ·intro w'
                             go_simp
                             with_reducible rfl
                            rotate_left
                            ·simp only [Act.put, List.setIfInBounds_toArray, List.set_cons_zero, List.set_cons_succ, i64_w, i32_w]
                             rfl
                            refine pure_ (i := 14) (N := some 118) (v := ?_) (a' := ?_) #[true, true, true, true, true, true, true, true, true, true, true, true, true, true, true, false, false, false, false, false, false] rfl rfl (any_of HT_.out (by kernel_rfl)) (fun _ _ _ h => h) (Or.inl ⟨by rfl, ?_⟩) ?_ ?_
                            rotate_left
                            ·intro w'
                             go_simp
                             with_reducible rfl
                            rotate_left
                            ·simp only [Act.put, List.setIfInBounds_toArray, List.set_cons_zero, List.set_cons_succ, i64_w, i32_w]
                             rfl
                            refine pure_ (i := 15) (N := some 119) (v := ?_) (a' := ?_) #[true, true, true, true, true, true, true, true, true, true, true, true, true, true, true, true, false, false, false, false, false] rfl rfl (any_of HT_.out (by kernel_rfl)) (fun _ _ _ h => h) (Or.inl ⟨by rfl, ?_⟩) ?_ ?_
                            rotate_left
                            ·intro w'
                             go_simp
                             with_reducible rfl
                            rotate_left
                            ·simp only [Act.put, List.setIfInBounds_toArray, List.set_cons_zero, List.set_cons_succ, i64_w, i32_w]
                             rfl
                            refine take_ (i := 16) (N := some 120) (v := ?_) (a' := ?_) #[true, true, true, true, true, true, true, true, true, true, true, true, true, true, true, true, true, false, false, false, false] rfl rfl (take_ofW HT_.out HW_.out (by kernel_rfl)) (fun _ _ _ h => h) (Or.inl ⟨by rfl, ?_⟩) hHeld ?_ ?_
                            rotate_left
                            ·rintro w' ⟨s0, s1, s2, s3, s4, s5, s6, s7, s8, s9, s10, s11⟩
                             go_simp
                             with_reducible rfl
                            rotate_left
                            ·simp only [Act.put, List.setIfInBounds_toArray, List.set_cons_zero, List.set_cons_succ, i64_w, i32_w]
                             rfl
                            refine take_ (i := 17) (N := some 121) (v := ?_) (a' := ?_) #[true, true, true, true, true, true, true, true, true, true, true, true, true, true, true, true, true, true, false, false, false] rfl rfl (take_ofW HT_.out HW_.out (by kernel_rfl)) (fun _ _ _ h => h) (Or.inl ⟨by rfl, ?_⟩) hHeld ?_ ?_
                            rotate_left
                            ·rintro w' ⟨s0, s1, s2, s3, s4, s5, s6, s7, s8, s9, s10, s11⟩
                             go_simp
                             with_reducible rfl
                            rotate_left
                            ·simp only [Act.put, List.setIfInBounds_toArray, List.set_cons_zero, List.set_cons_succ, i64_w, i32_w]
                             rfl
                            refine one_ (i := 18) (N := some 122) #[true, true, true, true, true, true, true, true, true, true, true, true, true, true, true, true, true, true, true, false, false] rfl rfl (one_of HT_.out (by kernel_rfl)) (by decide) (fun K hK => ?_)
                            refine goes_ Try.func28 (by kernel_rfl) rfl #[.agg #[.int .i64 ((rd_T56 l0 x11_56).f0), .int .i64 ((rd_T56 l0 x11_56).f1), .slice A148_2 ((rd_T56 l0 x11_56).f2).length c148_2, .slice A148_3 ((rd_T56 l0 x11_56).f3).length c148_3], .agg #[.int .i64 ((rd_T56 l0 x99_4).f0), .int .i64 ((rd_T56 l0 x99_4).f1), .slice A146_2 ((rd_T56 l0 x99_4).f2).length c146_2, .slice A146_3 ((rd_T56 l0 x99_4).f3).length c146_3]] (by rfl) rfl rfl (by (try simp only [List.map_toArray, List.map_cons, List.map_nil]); first | done | rfl | (simp only [List.length_drop, List.length_take]; rfl)) ?_
                            with_reducible refine (spec_l15Leads.calls k4 ((rd_T56 l0 x11_56).f0) ((rd_T56 l0 x11_56).f1) _ _ ((rd_T56 l0 x11_56).f2) _ _ ((rd_T56 l0 x11_56).f3) ((rd_T56 l0 x99_4).f0) ((rd_T56 l0 x99_4).f1) _ _ ((rd_T56 l0 x99_4).f2) _ _ ((rd_T56 l0 x99_4).f3) false _ ?side1 ?side2 ?side3 ?side4 ?side5 ?side6 ?side7 ?side8 A101.out).mono ?_
                            (case side1 => repeat (first | exact (Kd.C_below HR151_2.out HB.out) | (with_reducible refine Kd.C_alloc ?_ _) | (with_reducible refine Kd.C_drewN ?_ _) | (with_reducible refine Kd.C_drew ?_)))
                            (case side2 => exact HC151_2.out)
                            (case side3 => repeat (first | exact (Kd.C_below HR151_3.out HB.out) | (with_reducible refine Kd.C_alloc ?_ _) | (with_reducible refine Kd.C_drewN ?_ _) | (with_reducible refine Kd.C_drew ?_)))
                            (case side4 => exact HC151_3.out)
                            (case side5 => repeat (first | exact (Kd.C_below HR146_2.out HB.out) | (with_reducible refine Kd.C_alloc ?_ _) | (with_reducible refine Kd.C_drewN ?_ _) | (with_reducible refine Kd.C_drew ?_)))
                            (case side6 => exact HC146_2.out)
                            (case side7 => repeat (first | exact (Kd.C_below HR146_3.out HB.out) | (with_reducible refine Kd.C_alloc ?_ _) | (with_reducible refine Kd.C_drewN ?_ _) | (with_reducible refine Kd.C_drew ?_)))
                            (case side8 => exact HC146_3.out)
                            rintro e w117 ⟨rfl, hb⟩
                            refine ⟨_, rfl, ?_⟩
                            have n0_ := Aside0.mk (Kd.R_below (by (with_reducible repeat (first | apply Kd.R_alloc | apply Kd.R_drewN | apply Kd.R_drew)); exact HO_4.out) hb)
                            have n1_ := Aside0.mk (Kd.R_below (by (with_reducible repeat (first | apply Kd.R_alloc | apply Kd.R_drewN | apply Kd.R_drew)); exact HO_9.out) hb)
                            have n2_ := Aside0.mk (Kd.R_below (by (with_reducible repeat (first | apply Kd.R_alloc | apply Kd.R_drewN | apply Kd.R_drew)); exact HO_10.out) hb)
                            have n3_ := Aside0.mk (blk_below (g := gb147) (o := .cells #[.int .i64 ((rd_T56 l0 x99_4).f0), .int .i64 ((rd_T56 l0 x99_4).f1), .slice A146_2 ((rd_T56 l0 x99_4).f2).length c146_2, .slice A146_3 ((rd_T56 l0 x99_4).f3).length c146_3] 56 (0, 0)) (by (with_reducible repeat (first | refine blk_drewN ?_ _ | refine blk_drew ?_ | refine blk_alloc ?_ _)); exact BK147.out) hb)
                            have n4_ := Aside0.mk (below_step (by repeat (first | (with_reducible first | exact HB.out | apply below_alloc | apply pw_below_drewN | apply below_drew1 | refine below_set ?_ GE147.out) | exact HB.out)) hb)
                            clear HO_4
                            clear HO_9
                            clear HO_10
                            clear BK147
                            clear HB
                            have HO_4 := n0_
                            have HO_9 := n1_
                            have HO_10 := n2_
                            have BK147 := n3_
                            have HB := n4_
                            clear n0_ n1_ n2_ n3_ n4_
                            (try clear hb)
                            (try clear hb2)
                            (try clear hk)
                            (try clear hi)
                            refine hK.out _ _ ⟨(blk_cell BK147.out 0).trans rfl, (blk_cell BK147.out 1).trans rfl, (blk_cell BK147.out 2).trans rfl, (blk_cell BK147.out 3).trans rfl, ((HB.out.cell (World.block_lt_of_cell? w _ hw148_0)).trans hw148_0), ((HB.out.cell (World.block_lt_of_cell? w _ hw148_1)).trans hw148_1), ((HB.out.cell (World.block_lt_of_cell? w _ hw148_2)).trans hw148_2), ((HB.out.cell (World.block_lt_of_cell? w _ hw148_3)).trans hw148_3), ((HB.out.cell (World.block_lt_of_cell? w _ hw151_0)).trans hw151_0), ((HB.out.cell (World.block_lt_of_cell? w _ hw151_1)).trans hw151_1), ((HB.out.cell (World.block_lt_of_cell? w _ hw151_2)).trans hw151_2), ((HB.out.cell (World.block_lt_of_cell? w _ hw151_3)).trans hw151_3)⟩ (fun hHeld => ?_)
                            clear hK K
                            refine norm_ (a' := ?_) ?_ ?_
                            rotate_left
                            ·show Act.put _ (some 122) _ = _
                             simp only [Act.put, List.setIfInBounds_toArray, List.set_cons_zero, List.set_cons_succ, i64_w, i32_w]
                             rfl
                            refine pure_ (i := 19) (N := some 123) (v := ?_) (a' := ?_) #[true, true, true, true, true, true, true, true, true, true, true, true, true, true, true, true, true, true, true, true, false] rfl rfl (any_of HT_.out (by kernel_rfl)) (fun _ _ _ h => h) (Or.inl ⟨by rfl, ?_⟩) ?_ ?_
                            rotate_left
                            ·intro w'
                             go_simp
                             with_reducible rfl
                            rotate_left
                            ·simp only [Act.put, List.setIfInBounds_toArray, List.set_cons_zero, List.set_cons_succ, i64_w, i32_w]
                             rfl
                            refine pure_ (i := 20) (N := some 124) (v := ?_) (a' := ?_) #[true, true, true, true, true, true, true, true, true, true, true, true, true, true, true, true, true, true, true, true, true] rfl rfl (any_of HT_.out (by kernel_rfl)) (fun _ _ _ h => h) (Or.inl ⟨by rfl, ?_⟩) ?_ ?_
                            rotate_left
                            ·intro w'
                             go_simp
                             with_reducible rfl
                            rotate_left
                            ·simp only [Act.put, List.setIfInBounds_toArray, List.set_cons_zero, List.set_cons_succ, i64_w, i32_w]
                             rfl
                            refine done_ (done_of HT_.out (by kernel_rfl)) ?_
                            try go_wp2
                            (try simp only [← hl10_4])
                            go_roundg k4
                            case measure => have := HK1.out; have := HK2.out; have := HJ56.out; have := HK4.out; omega
                            case rel => exact ⟨(x4_4), (wrap64 (x99_4 + 1)), (by first | rfl | (simp; done) | (simp [*]; done)), H', ⟨by have := HK1.out; have := HK2.out; have := HJ56.out; have := HK4.out; omega⟩, ⟨by (try simp only [hl10_4]); (with_reducible repeat (first | apply Kd.R_alloc | apply Kd.R_drewN | apply Kd.R_drew)); exact HO_4.out⟩, ⟨by (try simp only [hl10_4]); (with_reducible repeat (first | apply Kd.R_alloc | apply Kd.R_drewN | apply Kd.R_drew)); exact HO_9.out⟩, ⟨by (try simp only [hl10_4]); (with_reducible repeat (first | apply Kd.R_alloc | apply Kd.R_drewN | apply Kd.R_drew)); exact HO_10.out⟩, ⟨by repeat (first | (with_reducible first | exact HB.out | apply below_alloc | apply pw_below_drewN | apply below_drew1 | refine below_set ?_ GE147.out) | exact HB.out)⟩⟩
                         ·rw [if_neg c90] at H
                          exact absurd H (by simp)
                        ·rw [if_neg c89] at H
                         exact absurd H (by simp)
                      ·rw [if_neg c83] at H
                       exact absurd H (by simp)
                     ·rw [if_neg c82] at H
                      exact absurd H (by simp)
                    ·rw [if_neg c81] at H
                     have c81b0 : decide (x99_4 < (l0.length : Int)) = false := decide_eq_false c81
                     clear c81
                     have H' := Aside0.mk H
                     clear H
                     go_wp2
                     (try simp only [← hl10_4])
                     go_roundg k4
                     case measure => have := HK1.out; have := HK2.out; have := HJ56.out; have := HK4.out; omega
                     case rel => exact ⟨(x4_4), (y143), (y142), H', ⟨by have := HK1.out; have := HK2.out; have := HJ56.out; have := HK4.out; omega⟩, ⟨by (try simp only [hl10_4]); (with_reducible repeat (first | apply Kd.R_alloc | apply Kd.R_drewN | apply Kd.R_drew)); exact HO_4.out⟩, ⟨by (try simp only [hl10_4]); (with_reducible repeat (first | apply Kd.R_alloc | apply Kd.R_drewN | apply Kd.R_drew)); exact HO_9.out⟩, ⟨by (try simp only [hl10_4]); (with_reducible repeat (first | apply Kd.R_alloc | apply Kd.R_drewN | apply Kd.R_drew)); exact HO_10.out⟩, ⟨by repeat (first | (with_reducible first | exact HB.out | apply below_alloc | apply pw_below_drewN | apply below_drew1) | exact HB.out)⟩⟩
                 ·rw [if_neg c77] at H
                  exact absurd H (by simp)
                ·rw [if_neg c75] at H
                 exact absurd H (by simp)
               ·rw [if_neg c74] at H
                exact absurd H (by simp)
           ·rw [if_neg c56] at H
            have c56b0 : decide ((x9_2.length : Int) < (l0.length : Int)) = false := decide_eq_false c56
            have c56b1 : decide (x9_2.length < l0.length) = false := decide_eq_false (fun h => c56 (Int.ofNat_lt.mpr h))
            clear c56
            simp only [Option.some.injEq, Prod.mk.injEq] at H
            obtain ⟨rfl, rfl⟩ := H
            obtain ⟨Ao118, co118, eo118⟩ := Kd.R_slice HO_9.out
            subst eo118
            go_wp2
            go_ret2
            exact ⟨_, by first | rfl | (simp [errW_none, errW_some] <;> rfl) | (simp [*, errW_none, errW_some] <;> rfl), by (with_reducible repeat (first | apply Kd.R_alloc | apply Kd.R_drewN | apply Kd.R_drew)); exact Kd.R_mono HO_9.out (fun _ hk => trivial), by repeat (first | (with_reducible first | exact HB.out | apply below_alloc | apply pw_below_drewN | apply below_drew1) | exact HB.out)⟩
        ·rw [if_neg c51] at H
         exact absurd H (by simp)
       ·rw [if_neg c50] at H
        exact absurd H (by simp)
   ·rw [if_neg c5] at H
    exact absurd H (by simp)
  ·rw [if_neg c4] at H
   exact absurd H (by simp)
 ·replace c3 := Bool.eq_false_iff.mpr c3
  subst c3
  have H1 : (some ((([] : List Int)), 1)) = some (r1, r2) := by rw [if_neg (show ¬ (false = true) by decide)] at H; exact H
  clear H
  have H := H1
  clear H1
  obtain ⟨y116, hy116⟩ : ∃ y_ : List Int, y_ = (([] : List Int)) := ⟨_, rfl⟩
  replace H : (some (y116, 1)) = some (r1, r2) := by first | (rw [hy116]; with_reducible exact H) | (have H2_ := (Option.bind_some _ _).symm.trans H; rw [hy116]; with_reducible exact H2_) | (have H2_ := (Option.bind_some _ _).symm.trans H; with_reducible exact H2_) | with_reducible exact H | (rw [hy116]; exact H) | exact H
  have Ny116 := Aside0.mk hy116
  clear hy116
  simp only [Option.some.injEq, Prod.mk.injEq] at H
  obtain ⟨rfl, rfl⟩ := H
  go_enter Try.func6, Try.ntmps6
  go_wp2_with (first | ((with_reducible refine gate_callee (f := 27) rfl ?_); refine goesL_ (some 16) rfl rfl Try.func27 (by kernel_rfl) rfl #[.slice A0 l0.length c0] rfl (by (try simp only [List.map_toArray, List.map_cons, List.map_nil]); first | done | rfl | (simp only [List.length_drop, List.length_take]; rfl)) ?_; (with_reducible refine (spec_l15HistoryOK.calls k _ _ l0 false _ ?side1 ?side2 A2.out).mono ?_); (case side1 => repeat (first | exact HR0.out | (with_reducible refine Kd.C_alloc ?_ _) | (with_reducible refine Kd.C_drewN ?_ _) | (with_reducible refine Kd.C_drew ?_))); (case side2 => exact HC0.out); rintro e w119 ⟨rfl, hb⟩; refine ⟨_, rfl, ?_⟩; have n0_ := Aside0.mk (below_step (by repeat (first | (with_reducible first | exact HB.out | apply below_alloc | apply pw_below_drewN | apply below_drew1) | exact HB.out)) hb); clear HB; have HB := n0_; clear n0_; (try clear hb); (try clear hb2); (try clear hk); (try clear hi)) | ((with_reducible refine gate_dst (N := 18) rfl ?_); refine Kd.R_lit (Kd.int .i64) _ 3 ?hg (N := 18) ?hd (xs := ([] : List Int)) (inner := []) (ok := fun _ => True) (okp := fun _ => True) ?hr ?hp (fun _ hk => hk) trivial (Below.refl _ _) (Nat.le_refl _) (by simp) ?_; (case hd => rfl); (case hg => rfl); (case hr => first | (go_simp; done) | (go_simp; rfl)); (case hp => exact (Reps.none _ _)); intro v117 w120 ho121 hb hg_ hnew_; clear hg_ hnew_; (first | rw [← Ny116.out] at ho121 | (simp only [Int.reduceToNat] at ho121; rw [← Ny116.out] at ho121)); have n0_ := Aside0.mk (Kd.R_lower ho121 (below_size (by repeat (first | (with_reducible first | exact HB.out | apply below_alloc | apply pw_below_drewN | apply below_drew1) | exact HB.out)))); have n1_ := Aside0.mk (below_step (by repeat (first | (with_reducible first | exact HB.out | apply below_alloc | apply pw_below_drewN | apply below_drew1) | exact HB.out)) hb); clear HB; have HO118 := n0_; have HB := n1_; clear n0_ n1_; clear hb ho121))
  go_ret2
  exact ⟨_, by first | rfl | (simp [errW_none, errW_some] <;> rfl) | (simp [*, errW_none, errW_some] <;> rfl), by (with_reducible repeat (first | apply Kd.R_alloc | apply Kd.R_drewN | apply Kd.R_drew)); exact HO118.out, by repeat (first | (with_reducible first | exact HB.out | apply below_alloc | apply pw_below_drewN | apply below_drew1) | exact HB.out)⟩

end Go.Proofs.Ytaicfmmgmblmiaa.QFnExactSerialOrder
