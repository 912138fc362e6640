/- Proved: what RowValues hands back for every row of bytes that can be read, the two tables of unicode/utf8 lying in memory. No other conditions. -/
import Derived.Test.YtaicfmmgmblmiaaDoorRvB
namespace Go.Proofs.YtaicfmmgmblmiaaDoor.QFnExactRowValues
open Go.RowKit Go.Proofs.YtaicfmmgmblmiaaDoorW.PrintWords Go.Proofs.YtaicfmmgmblmiaaDoorW.PrintLast Go.Proofs.YtaicfmmgmblmiaaDoorW.PrintMore Go.Proofs.YtaicfmmgmblmiaaDoorExt
def impl_RowValues.f (k : Nat) (l0 : List Int) : Option (List S25 × Int) :=
  if (l0.length : Int) = 0 then some ([], 28) else if (l0.length : Int) > 4000 then some ([], 28) else if rd l0 0 > 16 then (if rd l0 0 ≤ 255 then some ([], 28) else none)
  else if 0 ≤ rd l0 0 then fin k l0 (rvGo l0 (rd l0 0).toNat 1 []) else none
theorem fin_mono (k : Nat) (bs : List Int) (o : Option (List S25)) : LeO (fin k bs o) (fin (k + 1) bs o) := by
  cases o with
  | none => exact LeO.refl _
  | some out => exact LeO.bind (impl_RowBytes.mono _ _) (fun _ => LeO.refl _)
theorem impl_RowValues.mono : ∀ a0 k, LeO (impl_RowValues.f k a0) (impl_RowValues.f (k + 1) a0) := by
  intro a0 k
  unfold impl_RowValues.f
  exact LeO.ite (LeO.refl _) (LeO.ite (LeO.refl _) (LeO.ite (LeO.refl _) (LeO.ite (fin_mono _ _ _) (LeO.refl _))))
set_option maxHeartbeats 4000000 in
set_option maxRecDepth 100000 in
theorem impl_RowValues.calls (k : Nat) (A0 : Option Addr) (c0 : Nat) (l0 : List Int) (r1 : List S25) (r2 : Int) (w : World) (hT : Tabs w) (hr0 : Kd.C (Kd.int .u8) w A0 l0.length l0) (hc0 : l0.length ≤ c0) (h : impl_RowValues.f k l0 = some (r1, r2)) :
    Calls Tryd.prog 22 #[.slice A0 l0.length c0] w fun e w' => ∃ v0_ : Value, e = .returned (.tuple #[v0_, .int .i64 r2]) ∧ Kd.R k25 25 w' w.heap.size (fun _ => True) v0_ r1 ∧ Below w.heap.size w w' := by
  unfold impl_RowValues.f at h
  by_cases c1 : (l0.length : Int) = 0
  · rw [if_pos c1] at h
    obtain ⟨h1, h2⟩ := Prod.mk.inj (Option.some.inj h)
    have H1 := Aside0.mk h1
    have H2 := Aside0.mk h2
    have e1 : ((l0.length : Int) == 0) = true := beq_iff_eq.mpr c1
    clear h h1 h2 c1 hr0 hc0
    go_enter Tryd.func22, Tryd.ntmps22
    go_wp2
    go_ret2
    exact ⟨.slice none 0 0, by rw [← H2.out]; rfl, by rw [← H1.out]; exact Kd.R_nil _ _ _ _ _, below_alloc (Below.refl _ _) _⟩
  rw [if_neg c1] at h
  have e1 : ((l0.length : Int) == 0) = false := beq_eq_false_iff_ne.mpr c1
  by_cases c2 : (l0.length : Int) > 4000
  · rw [if_pos c2] at h
    obtain ⟨h1, h2⟩ := Prod.mk.inj (Option.some.inj h)
    have H1 := Aside0.mk h1
    have H2 := Aside0.mk h2
    have e2 : decide ((l0.length : Int) > 4000) = true := decide_eq_true c2
    have e3 : decide (4000 < (l0.length : Int)) = true := decide_eq_true c2
    clear h h1 h2 c1 c2 hr0 hc0
    go_enter Tryd.func22, Tryd.ntmps22
    go_wp2
    go_ret2
    exact ⟨.slice none 0 0, by rw [← H2.out]; rfl, by rw [← H1.out]; exact Kd.R_nil _ _ _ _ _, below_alloc (Below.refl _ _) _⟩
  rw [if_neg c2] at h
  have h0 : 0 < l0.length := by omega
  by_cases c3 : rd l0 0 > 16
  · rw [if_pos c3] at h
    by_cases hb : rd l0 0 ≤ 255
    case neg => rw [if_neg hb] at h; cases h
    rw [if_pos hb] at h
    obtain ⟨h1, h2⟩ := Prod.mk.inj (Option.some.inj h)
    have H1 := Aside0.mk h1
    have H2 := Aside0.mk h2
    have e2 : decide ((l0.length : Int) > 4000) = false := decide_eq_false c2
    have e3 : decide (4000 < (l0.length : Int)) = false := decide_eq_false c2
    obtain ⟨ad, e6, hx⟩ := Kd.at_int (Kd.C_below hr0 (below_alloc (Below.refl _ _) (.cells #[.slice A0 l0.length c0] 33))) 0 (by omega) (by omega)
    cases e6
    rw [show (0 : Int).toNat = 0 from rfl, Addr.add_zero'] at hx
    have e4 : decide (wrap64 (rd l0 0) > 16) = true := decide_eq_true (by unfold wrap64; omega)
    have e5 : decide (16 < wrap64 (rd l0 0)) = true := decide_eq_true (by unfold wrap64; omega)
    have q0 : (0 : Int) < (l0.length : Int) := by omega
    have q0' := eq_true q0
    have q1 : (0 < l0.length) = True := eq_true h0
    have q2 : (l0.length = 0) = False := eq_false (by omega)
    have q3 : (l0 = []) = False := eq_false (by intro e; rw [e] at h0; exact absurd h0 (by decide))
    clear h h1 h2 c1 c2 c3 hr0 hc0 h0 q0 hb
    go_enter Tryd.func22, Tryd.ntmps22
    go_wp2
    go_ret2
    exact ⟨.slice none 0 0, by rw [← H2.out]; rfl, by rw [← H1.out]; exact Kd.R_nil _ _ _ _ _, below_alloc (Below.refl _ _) _⟩
  rw [if_neg c3] at h
  by_cases c4 : 0 ≤ rd l0 0
  · rw [if_pos c4] at h
    exact walk_main k A0 c0 l0 w hr0 h0 (by omega) (by omega) c4 _ rfl hc0 hT r1 r2 h
  · rw [if_neg c4] at h; cases h
#print axioms impl_RowValues.calls
end Go.Proofs.YtaicfmmgmblmiaaDoor.QFnExactRowValues
