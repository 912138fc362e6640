/- Proved: what the two tests of a history (the reference's and the program's) hand back for every history that can be read. No conditions. -/
import Derived.Test.YtaicfmmgmblmiaaQFnExactSerialOrderx1
import Derived.Deep.QuietTactic
import Derived.BigQuiet
import Derived.IntWalk
namespace Go.Proofs.Ytaicfmmgmblmiaa.QFnExactSerialOrder
open Go.RowKit Go.Proofs.YtaicfmmgmblmiaaW.PrintWords Go.Proofs.YtaicfmmgmblmiaaW.PrintLast Go.Proofs.YtaicfmmgmblmiaaW.PrintMore
set_option linter.unusedVariables false
set_option linter.unusedSimpArgs false
/-- What is asked of each part of a history, from one on; T: of its tables. -/
def histGo (T : List Int → Option Bool) (l : List S56) : Nat → Nat → Option Bool
  | 0, _ => some true
  | n + 1, i => if (rd_T56 l (i : Int)).f0 < 0 then some false else if (rd_T56 l (i : Int)).f1 ≤ (rd_T56 l (i : Int)).f0 then some false
    else if 0 < i ∧ (rd_T56 l ((i : Int) - 1)).f1 ≥ (rd_T56 l (i : Int)).f1 then some false
    else (T (rd_T56 l (i : Int)).f2).bind fun a => if a = true then (T (rd_T56 l (i : Int)).f3).bind fun b => if b = true then histGo T l n (i + 1) else some false else some false
theorem histGo_mono {T T' : List Int → Option Bool} (h : ∀ x, LeO (T x) (T' x)) (l : List S56) : ∀ n i, LeO (histGo T l n i) (histGo T' l n i)
  | 0, _ => LeO.refl _
  | n + 1, i => LeO.ite (LeO.refl _) (LeO.ite (LeO.refl _) (LeO.ite (LeO.refl _) (LeO.bind (h _) fun _ => LeO.ite (LeO.bind (h _) fun _ => LeO.ite (histGo_mono h l n (i + 1)) (LeO.refl _)) (LeO.refl _))))
def hist (T : List Int → Option Bool) (l : List S56) : Option Bool := if (l.length : Int) > 1000 then some false else histGo T l l.length 0
theorem quiet_d {P : Program} {f : FuncId} {args : Array Value} {W : World} {v : Value} (h : Calls P f args W fun e w' => e = .returned v ∧ Drawn0 W w') : Calls P f args W fun e w' => e = .returned v ∧ ∃ m, w' = W.drewN m :=
  h.mono fun _ _ ⟨he, hd⟩ => ⟨he, hd.out⟩
theorem quiet_d2 {P : Program} {f : FuncId} {args : Array Value} {W : World} {n : Nat} {v : Value} (h : Calls P f args (W.drewN n) fun e w' => e = .returned v ∧ Drawn0 (W.drewN n) w') : Calls P f args (W.drewN n) fun e w' => e = .returned v ∧ ∃ m, w' = W.drewN m :=
  h.mono fun _ _ ⟨he, hd⟩ => ⟨he, by obtain ⟨m, hm⟩ := hd.out; exact ⟨n + m, by rw [hm, World.drewN_drewN]⟩⟩
theorem prev_cell {w : World} {A : Option Addr} {n : Nat} {xs : List S56} {ad : Addr} (hA : A = some ad) (h : Kd.C k56 w A n xs) (i : Int) (h0 : 0 ≤ i) (h1 : i < n) : w.cell? ⟨(ad.add (i.toNat * 4)).block, (ad.add (i.toNat * 4)).off + 1, none⟩ = some (.int .i64 (rd_T56 xs i).f1) := by
  obtain ⟨ad', _, _, _, _, e, _, h1, _⟩ := at_T56 h i h0 h1
  rw [hA] at e
  obtain rfl := Option.some.inj e
  exact h1
def spec_l15HistoryOK.f (k : Nat) (l0 : List S56) : Option Bool := hist (spec_l15Tables.f k) l0
theorem spec_l15HistoryOK.mono : ∀ a0 k, LeO (spec_l15HistoryOK.f k a0) (spec_l15HistoryOK.f (k + 1) a0) := fun a0 k => LeO.ite (LeO.refl _) (histGo_mono (fun x => spec_l15Tables.mono x k) a0 _ _)
set_option maxHeartbeats 8000000 in
set_option maxRecDepth 100000 in
theorem spec_l15HistoryOK.calls (k : Nat) (A0 : Option Addr) (c0 : Nat) (l0 : List (S56)) (r : Bool) (w : World) (hr0 : Kd.C k56 w A0 l0.length l0) (hc0 : l0.length ≤ c0) (h : spec_l15HistoryOK.f k l0 = some r) :
    Calls Try.prog 27 #[.slice A0 l0.length c0] w fun e w' => e = .returned (.bool r) ∧ Below w.heap.size w w' := by
  have hu56 := Try.underlying56
  have HR := Aside0.mk hr0
  clear hr0 hc0
  replace h : (if (l0.length : Int) > 1000 then some false else histGo (spec_l15Tables.f k) l0 l0.length 0) = some r := h
  by_cases c : (l0.length : Int) > 1000
  · rw [if_pos c] at h
    obtain rfl := Option.some.inj h
    have d0 : decide ((l0.length : Int) > 1000) = true := decide_eq_true c
    have d1 : decide (1000 < (l0.length : Int)) = true := decide_eq_true c
    have d2 : decide (1000 < l0.length) = true := decide_eq_true (by omega)
    clear c h
    go_enter Try.func27, Try.ntmps27
    go_wp2
    go_ret
    exact ⟨rfl, Below.refl _ _⟩
  · rw [if_neg c] at h
    have H := Aside0.mk h
    have HLEN := Aside0.mk (show l0.length ≤ 1000 by omega)
    have d0 : decide ((l0.length : Int) > 1000) = false := decide_eq_false c
    have d1 : decide (1000 < (l0.length : Int)) = false := decide_eq_false c
    have d2 : decide (1000 < l0.length) = false := decide_eq_false (by omega)
    clear c h
    go_enter Try.func27, Try.ntmps27
    go_wp2
    go_loopw [10] (fun v w' => ∃ (n i : Nat), i + n = l0.length ∧ v = .int .i64 (i : Int) ∧ Aside0 (histGo (spec_l15Tables.f k) l0 n i = some r) ∧ Aside0 (Below w.heap.size w w')) (fun v _ => 1000 - (intOf v).toNat)
    case atStart => exact ⟨l0.length, 0, by omega, rfl, H, ⟨Below.refl _ _⟩⟩
    case round =>
      obtain ⟨n, i, hi, rfl, HG, HB⟩ := hrel
      have HI := Aside0.mk hi
      clear hi
      cases n with
      | zero =>
        have hlt : decide ((i : Int) < (l0.length : Int)) = false := decide_eq_false (by have := HI.out; omega)
        have hlt2 : decide (i < l0.length) = false := decide_eq_false (by have := HI.out; omega)
        obtain rfl := Option.some.inj HG.out
        go_wp2
        go_ret
        exact ⟨rfl, HB.out⟩
      | succ n =>
        have hlt : decide ((i : Int) < (l0.length : Int)) = true := decide_eq_true (by have := HI.out; omega)
        have hlt2 : decide (i < l0.length) = true := decide_eq_true (by have := HI.out; omega)
        have p0 : (0 : Int) ≤ (i : Int) := by omega
        have q0 : (i : Int) < (l0.length : Int) := by have := HI.out; omega
        have hle1000 : (i : Int) ≤ 1000 := by have := HLEN.out; omega
        obtain ⟨ad, A2, c2, A3, c3, e, hx0, hx1, hx2, hx3, hl2, hr2, hl3, hr3⟩ := at_T56 HR.out (i : Int) p0 q0
        have HP := Aside0.mk (fun h0 => prev_cell e HR.out ((i : Int) - 1) h0 (by omega))
        cases e
        replace hx0 := (HB.out.cell (World.block_lt_of_cell? w _ hx0)).trans hx0
        replace hx1 := (HB.out.cell (World.block_lt_of_cell? w _ hx1)).trans hx1
        replace hx2 := (HB.out.cell (World.block_lt_of_cell? w _ hx2)).trans hx2
        replace hx3 := (HB.out.cell (World.block_lt_of_cell? w _ hx3)).trans hx3
        rw [Int.toNat_natCast] at hx0 hx1 hx2 hx3
        have HL2 := Aside0.mk hl2
        have HL3 := Aside0.mk hl3
        have HR2 := Aside0.mk (Kd.C_below hr2 HB.out)
        have HR3 := Aside0.mk (Kd.C_below hr3 HB.out)
        clear hl2 hl3 hr2 hr3
        have H := HG.out
        clear HG
        replace H : (if (rd_T56 l0 (i : Int)).f0 < 0 then some false else if (rd_T56 l0 (i : Int)).f1 ≤ (rd_T56 l0 (i : Int)).f0 then some false
          else if 0 < i ∧ (rd_T56 l0 ((i : Int) - 1)).f1 ≥ (rd_T56 l0 (i : Int)).f1 then some false
          else (spec_l15Tables.f k (rd_T56 l0 (i : Int)).f2).bind fun a => if a = true then (spec_l15Tables.f k (rd_T56 l0 (i : Int)).f3).bind fun b => if b = true then histGo (spec_l15Tables.f k) l0 n (i + 1) else some false else some false) = some r := H
        obtain ⟨X, hX⟩ : ∃ X, rd_T56 l0 (i : Int) = X := ⟨_, rfl⟩
        rw [hX] at hx0 hx1 hx2 hx3 HL2 HL3 HR2 HR3 H
        clear hX
        replace p0 := eq_true p0
        replace q0 := eq_true q0
        have HW : Aside0 (Below w.heap.size w (wr.alloc (.cells #[.int .i64 X.f0, .int .i64 X.f1, .slice A2 X.f2.length c2, .slice A3 X.f3.length c3] 56))) := ⟨below_alloc HB.out _⟩
        by_cases a0 : X.f0 < 0
        · rw [if_pos a0] at H
          obtain rfl := Option.some.inj H
          have b0 : decide (X.f0 < 0) = true := decide_eq_true a0
          clear H a0 HP
          go_wp2
          go_quiet (fail)
          go_wp2
          go_ret
          exact ⟨rfl, pw_below_drewN HW.out _⟩
        rw [if_neg a0] at H
        have b0 : decide (X.f0 < 0) = false := decide_eq_false a0
        clear a0
        by_cases a1 : X.f1 ≤ X.f0
        · rw [if_pos a1] at H
          obtain rfl := Option.some.inj H
          have b1 : decide (X.f1 ≤ X.f0) = true := decide_eq_true a1
          have b2 : decide (X.f0 ≥ X.f1) = true := decide_eq_true a1
          clear H a1 HP
          go_wp2
          go_quiet (fail)
          go_wp2
          go_ret
          exact ⟨rfl, pw_below_drewN HW.out _⟩
        rw [if_neg a1] at H
        have b1 : decide (X.f1 ≤ X.f0) = false := decide_eq_false a1
        have b2 : decide (X.f0 ≥ X.f1) = false := decide_eq_false a1
        clear a1
        by_cases g : 0 < i
        · have g0 : decide (0 < (i : Int)) = true := decide_eq_true (by omega)
          have g1 : decide (0 < i) = true := decide_eq_true g
          have g2 : decide ((i : Int) > 0) = true := decide_eq_true (by omega)
          obtain ⟨j, hj⟩ : ∃ j, (i : Int) - 1 = j := ⟨_, rfl⟩
          have p1 : (0 : Int) ≤ j := by omega
          have hws : IntKind.i64.wrap ((i : Int) - 1) = j := by rw [← hj]; exact IntWalk.i64_in _ (by omega)
          have hp := HP.out (by rw [hj]; exact p1)
          rw [hj] at hp H
          replace hp := (HW.out.cell (World.block_lt_of_cell? w _ hp)).trans hp
          have p2 : j < (l0.length : Int) := by have := HI.out; omega
          replace p1 := eq_true p1
          replace p2 := eq_true p2
          clear HP hj
          by_cases a2 : (rd_T56 l0 j).f1 ≥ X.f1
          · rw [if_pos ⟨g, a2⟩] at H
            obtain rfl := Option.some.inj H
            have b3 : decide ((rd_T56 l0 j).f1 ≥ X.f1) = true := decide_eq_true a2
            have b4 : decide (X.f1 ≤ (rd_T56 l0 j).f1) = true := decide_eq_true a2
            clear H a2 g
            go_wp2
            go_quiet (fail)
            go_wp2
            go_ret
            exact ⟨rfl, pw_below_drewN HW.out _⟩
          rw [if_neg (fun h_ => a2 h_.2)] at H
          have b3 : decide ((rd_T56 l0 j).f1 ≥ X.f1) = false := decide_eq_false a2
          have b4 : decide (X.f1 ≤ (rd_T56 l0 j).f1) = false := decide_eq_false a2
          clear a2 g
          obtain ⟨a, T2, H⟩ := Option.bind_eq_some_iff.mp H
          have HT2 := Aside0.mk T2
          clear T2
          cases a with
          | false =>
            obtain rfl := Option.some.inj H
            clear H
            go_wp2
            go_quiet ((go_at_call 49; ((first | (with_reducible refine quiet_d (spec_l15Tables.calls k A2 c2 X.f2 _ _ ?_ HL2.out HT2.out)) | (with_reducible refine quiet_d2 (spec_l15Tables.calls k A2 c2 X.f2 _ _ ?_ HL2.out HT2.out))); repeat (first | exact HR2.out | (with_reducible refine Kd.C_alloc ?_ _) | (with_reducible refine Kd.C_drewN ?_ _) | (with_reducible refine Kd.C_drew ?_)))))
            go_wp2
            go_ret
            exact ⟨rfl, pw_below_drewN HW.out _⟩
          | true =>
            obtain ⟨b, T3, H⟩ := Option.bind_eq_some_iff.mp H
            have HT3 := Aside0.mk T3
            clear T3
            cases b with
            | false =>
              obtain rfl := Option.some.inj H
              clear H
              go_wp2
              go_quiet ((go_at_call 49; (first | ((first | (with_reducible refine quiet_d (spec_l15Tables.calls k A2 c2 X.f2 _ _ ?_ HL2.out HT2.out)) | (with_reducible refine quiet_d2 (spec_l15Tables.calls k A2 c2 X.f2 _ _ ?_ HL2.out HT2.out))); repeat (first | exact HR2.out | (with_reducible refine Kd.C_alloc ?_ _) | (with_reducible refine Kd.C_drewN ?_ _) | (with_reducible refine Kd.C_drew ?_))) | ((first | (with_reducible refine quiet_d (spec_l15Tables.calls k A3 c3 X.f3 _ _ ?_ HL3.out HT3.out)) | (with_reducible refine quiet_d2 (spec_l15Tables.calls k A3 c3 X.f3 _ _ ?_ HL3.out HT3.out))); repeat (first | exact HR3.out | (with_reducible refine Kd.C_alloc ?_ _) | (with_reducible refine Kd.C_drewN ?_ _) | (with_reducible refine Kd.C_drew ?_))))))
              go_wp2
              go_ret
              exact ⟨rfl, pw_below_drewN HW.out _⟩
            | true =>
              have HN : Aside0 (histGo (spec_l15Tables.f k) l0 n (i + 1) = some r) := ⟨H⟩
              clear H
              go_wp2
              go_quiet ((go_at_call 49; (first | ((first | (with_reducible refine quiet_d (spec_l15Tables.calls k A2 c2 X.f2 _ _ ?_ HL2.out HT2.out)) | (with_reducible refine quiet_d2 (spec_l15Tables.calls k A2 c2 X.f2 _ _ ?_ HL2.out HT2.out))); repeat (first | exact HR2.out | (with_reducible refine Kd.C_alloc ?_ _) | (with_reducible refine Kd.C_drewN ?_ _) | (with_reducible refine Kd.C_drew ?_))) | ((first | (with_reducible refine quiet_d (spec_l15Tables.calls k A3 c3 X.f3 _ _ ?_ HL3.out HT3.out)) | (with_reducible refine quiet_d2 (spec_l15Tables.calls k A3 c3 X.f3 _ _ ?_ HL3.out HT3.out))); repeat (first | exact HR3.out | (with_reducible refine Kd.C_alloc ?_ _) | (with_reducible refine Kd.C_drewN ?_ _) | (with_reducible refine Kd.C_drew ?_))))))
              go_wp2
              go_roundw
              case rel => exact ⟨n, i + 1, by have := HI.out; omega, by go_num, HN, ⟨pw_below_drewN HW.out _⟩⟩
              case measure => have h8 := HI.out; have h9 := HLEN.out; simp [intOf]; omega
        · have g0 : decide (0 < (i : Int)) = false := decide_eq_false (by omega)
          have g1 : decide (0 < i) = false := decide_eq_false g
          have g2 : decide ((i : Int) > 0) = false := decide_eq_false (by omega)
          rw [if_neg (fun h_ => g h_.1)] at H
          clear HP g
          obtain ⟨a, T2, H⟩ := Option.bind_eq_some_iff.mp H
          have HT2 := Aside0.mk T2
          clear T2
          cases a with
          | false =>
            obtain rfl := Option.some.inj H
            clear H
            go_wp2
            go_quiet ((go_at_call 49; ((first | (with_reducible refine quiet_d (spec_l15Tables.calls k A2 c2 X.f2 _ _ ?_ HL2.out HT2.out)) | (with_reducible refine quiet_d2 (spec_l15Tables.calls k A2 c2 X.f2 _ _ ?_ HL2.out HT2.out))); repeat (first | exact HR2.out | (with_reducible refine Kd.C_alloc ?_ _) | (with_reducible refine Kd.C_drewN ?_ _) | (with_reducible refine Kd.C_drew ?_)))))
            go_wp2
            go_ret
            exact ⟨rfl, pw_below_drewN HW.out _⟩
          | true =>
            obtain ⟨b, T3, H⟩ := Option.bind_eq_some_iff.mp H
            have HT3 := Aside0.mk T3
            clear T3
            cases b with
            | false =>
              obtain rfl := Option.some.inj H
              clear H
              go_wp2
              go_quiet ((go_at_call 49; (first | ((first | (with_reducible refine quiet_d (spec_l15Tables.calls k A2 c2 X.f2 _ _ ?_ HL2.out HT2.out)) | (with_reducible refine quiet_d2 (spec_l15Tables.calls k A2 c2 X.f2 _ _ ?_ HL2.out HT2.out))); repeat (first | exact HR2.out | (with_reducible refine Kd.C_alloc ?_ _) | (with_reducible refine Kd.C_drewN ?_ _) | (with_reducible refine Kd.C_drew ?_))) | ((first | (with_reducible refine quiet_d (spec_l15Tables.calls k A3 c3 X.f3 _ _ ?_ HL3.out HT3.out)) | (with_reducible refine quiet_d2 (spec_l15Tables.calls k A3 c3 X.f3 _ _ ?_ HL3.out HT3.out))); repeat (first | exact HR3.out | (with_reducible refine Kd.C_alloc ?_ _) | (with_reducible refine Kd.C_drewN ?_ _) | (with_reducible refine Kd.C_drew ?_))))))
              go_wp2
              go_ret
              exact ⟨rfl, pw_below_drewN HW.out _⟩
            | true =>
              have HN : Aside0 (histGo (spec_l15Tables.f k) l0 n (i + 1) = some r) := ⟨H⟩
              clear H
              go_wp2
              go_quiet ((go_at_call 49; (first | ((first | (with_reducible refine quiet_d (spec_l15Tables.calls k A2 c2 X.f2 _ _ ?_ HL2.out HT2.out)) | (with_reducible refine quiet_d2 (spec_l15Tables.calls k A2 c2 X.f2 _ _ ?_ HL2.out HT2.out))); repeat (first | exact HR2.out | (with_reducible refine Kd.C_alloc ?_ _) | (with_reducible refine Kd.C_drewN ?_ _) | (with_reducible refine Kd.C_drew ?_))) | ((first | (with_reducible refine quiet_d (spec_l15Tables.calls k A3 c3 X.f3 _ _ ?_ HL3.out HT3.out)) | (with_reducible refine quiet_d2 (spec_l15Tables.calls k A3 c3 X.f3 _ _ ?_ HL3.out HT3.out))); repeat (first | exact HR3.out | (with_reducible refine Kd.C_alloc ?_ _) | (with_reducible refine Kd.C_drewN ?_ _) | (with_reducible refine Kd.C_drew ?_))))))
              go_wp2
              go_roundw
              case rel => exact ⟨n, i + 1, by have := HI.out; omega, by go_num, HN, ⟨pw_below_drewN HW.out _⟩⟩
              case measure => have h8 := HI.out; have h9 := HLEN.out; simp [intOf]; omega
def impl_zHistory.f (k : Nat) (l0 : List S56) : Option Bool := hist (impl_zHistory_1.f k) l0
theorem impl_zHistory.mono : ∀ a0 k, LeO (impl_zHistory.f k a0) (impl_zHistory.f (k + 1) a0) := fun a0 k => LeO.ite (LeO.refl _) (histGo_mono (fun x => impl_zHistory_1.mono x k) a0 _ _)
set_option maxHeartbeats 8000000 in
set_option maxRecDepth 100000 in
theorem impl_zHistory.calls (k : Nat) (A0 : Option Addr) (c0 : Nat) (l0 : List (S56)) (r : Bool) (w : World) (hr0 : Kd.C k56 w A0 l0.length l0) (hc0 : l0.length ≤ c0) (h : impl_zHistory.f k l0 = some r) :
    Calls Try.prog 30 #[.slice A0 l0.length c0] w fun e w' => e = .returned (.bool r) ∧ Below w.heap.size w w' := by
  have hu56 := Try.underlying56
  have HR := Aside0.mk hr0
  clear hr0 hc0
  replace h : (if (l0.length : Int) > 1000 then some false else histGo (impl_zHistory_1.f k) l0 l0.length 0) = some r := h
  by_cases c : (l0.length : Int) > 1000
  · rw [if_pos c] at h
    obtain rfl := Option.some.inj h
    have d0 : decide ((l0.length : Int) > 1000) = true := decide_eq_true c
    have d1 : decide (1000 < (l0.length : Int)) = true := decide_eq_true c
    have d2 : decide (1000 < l0.length) = true := decide_eq_true (by omega)
    clear c h
    go_enter Try.func30, Try.ntmps30
    go_wp2
    go_ret
    exact ⟨rfl, Below.refl _ _⟩
  · rw [if_neg c] at h
    have H := Aside0.mk h
    have HLEN := Aside0.mk (show l0.length ≤ 1000 by omega)
    have d0 : decide ((l0.length : Int) > 1000) = false := decide_eq_false c
    have d1 : decide (1000 < (l0.length : Int)) = false := decide_eq_false c
    have d2 : decide (1000 < l0.length) = false := decide_eq_false (by omega)
    clear c h
    go_enter Try.func30, Try.ntmps30
    go_wp2
    go_loopw [11] (fun v w' => ∃ (n i : Nat), i + n = l0.length ∧ v = .int .i64 (i : Int) ∧ Aside0 (histGo (impl_zHistory_1.f k) l0 n i = some r) ∧ Aside0 (Below w.heap.size w w')) (fun v _ => 1000 - (intOf v).toNat)
    case atStart => exact ⟨l0.length, 0, by omega, rfl, H, ⟨Below.refl _ _⟩⟩
    case round =>
      obtain ⟨n, i, hi, rfl, HG, HB⟩ := hrel
      have HI := Aside0.mk hi
      clear hi
      cases n with
      | zero =>
        have hlt : decide ((i : Int) < (l0.length : Int)) = false := decide_eq_false (by have := HI.out; omega)
        have hlt2 : decide (i < l0.length) = false := decide_eq_false (by have := HI.out; omega)
        obtain rfl := Option.some.inj HG.out
        go_wp2
        go_ret
        exact ⟨rfl, HB.out⟩
      | succ n =>
        have hlt : decide ((i : Int) < (l0.length : Int)) = true := decide_eq_true (by have := HI.out; omega)
        have hlt2 : decide (i < l0.length) = true := decide_eq_true (by have := HI.out; omega)
        have p0 : (0 : Int) ≤ (i : Int) := by omega
        have q0 : (i : Int) < (l0.length : Int) := by have := HI.out; omega
        have hle1000 : (i : Int) ≤ 1000 := by have := HLEN.out; omega
        obtain ⟨ad, A2, c2, A3, c3, e, hx0, hx1, hx2, hx3, hl2, hr2, hl3, hr3⟩ := at_T56 HR.out (i : Int) p0 q0
        have HP := Aside0.mk (fun h0 => prev_cell e HR.out ((i : Int) - 1) h0 (by omega))
        cases e
        replace hx0 := (HB.out.cell (World.block_lt_of_cell? w _ hx0)).trans hx0
        replace hx1 := (HB.out.cell (World.block_lt_of_cell? w _ hx1)).trans hx1
        replace hx2 := (HB.out.cell (World.block_lt_of_cell? w _ hx2)).trans hx2
        replace hx3 := (HB.out.cell (World.block_lt_of_cell? w _ hx3)).trans hx3
        rw [Int.toNat_natCast] at hx0 hx1 hx2 hx3
        have HL2 := Aside0.mk hl2
        have HL3 := Aside0.mk hl3
        have HR2 := Aside0.mk (Kd.C_below hr2 HB.out)
        have HR3 := Aside0.mk (Kd.C_below hr3 HB.out)
        clear hl2 hl3 hr2 hr3
        have H := HG.out
        clear HG
        replace H : (if (rd_T56 l0 (i : Int)).f0 < 0 then some false else if (rd_T56 l0 (i : Int)).f1 ≤ (rd_T56 l0 (i : Int)).f0 then some false
          else if 0 < i ∧ (rd_T56 l0 ((i : Int) - 1)).f1 ≥ (rd_T56 l0 (i : Int)).f1 then some false
          else (impl_zHistory_1.f k (rd_T56 l0 (i : Int)).f2).bind fun a => if a = true then (impl_zHistory_1.f k (rd_T56 l0 (i : Int)).f3).bind fun b => if b = true then histGo (impl_zHistory_1.f k) l0 n (i + 1) else some false else some false) = some r := H
        obtain ⟨X, hX⟩ : ∃ X, rd_T56 l0 (i : Int) = X := ⟨_, rfl⟩
        rw [hX] at hx0 hx1 hx2 hx3 HL2 HL3 HR2 HR3 H
        clear hX
        replace p0 := eq_true p0
        replace q0 := eq_true q0
        have HW : Aside0 (Below w.heap.size w (wr.alloc (.cells #[.int .i64 X.f0, .int .i64 X.f1, .slice A2 X.f2.length c2, .slice A3 X.f3.length c3] 56))) := ⟨below_alloc HB.out _⟩
        by_cases a0 : X.f0 < 0
        · rw [if_pos a0] at H
          obtain rfl := Option.some.inj H
          have b0 : decide (X.f0 < 0) = true := decide_eq_true a0
          clear H a0 HP
          go_wp2
          go_quiet (fail)
          go_wp2
          go_ret
          exact ⟨rfl, pw_below_drewN HW.out _⟩
        rw [if_neg a0] at H
        have b0 : decide (X.f0 < 0) = false := decide_eq_false a0
        clear a0
        by_cases a1 : X.f1 ≤ X.f0
        · rw [if_pos a1] at H
          obtain rfl := Option.some.inj H
          have b1 : decide (X.f1 ≤ X.f0) = true := decide_eq_true a1
          have b2 : decide (X.f0 ≥ X.f1) = true := decide_eq_true a1
          clear H a1 HP
          go_wp2
          go_quiet (fail)
          go_wp2
          go_ret
          exact ⟨rfl, pw_below_drewN HW.out _⟩
        rw [if_neg a1] at H
        have b1 : decide (X.f1 ≤ X.f0) = false := decide_eq_false a1
        have b2 : decide (X.f0 ≥ X.f1) = false := decide_eq_false a1
        clear a1
        by_cases g : 0 < i
        · have g0 : decide (0 < (i : Int)) = true := decide_eq_true (by omega)
          have g1 : decide (0 < i) = true := decide_eq_true g
          have g2 : decide ((i : Int) > 0) = true := decide_eq_true (by omega)
          obtain ⟨j, hj⟩ : ∃ j, (i : Int) - 1 = j := ⟨_, rfl⟩
          have p1 : (0 : Int) ≤ j := by omega
          have hws : IntKind.i64.wrap ((i : Int) - 1) = j := by rw [← hj]; exact IntWalk.i64_in _ (by omega)
          have hp := HP.out (by rw [hj]; exact p1)
          rw [hj] at hp H
          replace hp := (HW.out.cell (World.block_lt_of_cell? w _ hp)).trans hp
          have p2 : j < (l0.length : Int) := by have := HI.out; omega
          replace p1 := eq_true p1
          replace p2 := eq_true p2
          clear HP hj
          by_cases a2 : (rd_T56 l0 j).f1 ≥ X.f1
          · rw [if_pos ⟨g, a2⟩] at H
            obtain rfl := Option.some.inj H
            have b3 : decide ((rd_T56 l0 j).f1 ≥ X.f1) = true := decide_eq_true a2
            have b4 : decide (X.f1 ≤ (rd_T56 l0 j).f1) = true := decide_eq_true a2
            clear H a2 g
            go_wp2
            go_quiet (fail)
            go_wp2
            go_ret
            exact ⟨rfl, pw_below_drewN HW.out _⟩
          rw [if_neg (fun h_ => a2 h_.2)] at H
          have b3 : decide ((rd_T56 l0 j).f1 ≥ X.f1) = false := decide_eq_false a2
          have b4 : decide (X.f1 ≤ (rd_T56 l0 j).f1) = false := decide_eq_false a2
          clear a2 g
          obtain ⟨a, T2, H⟩ := Option.bind_eq_some_iff.mp H
          have HT2 := Aside0.mk T2
          clear T2
          cases a with
          | false =>
            obtain rfl := Option.some.inj H
            clear H
            go_wp2
            go_quiet ((go_at_call 51; ((first | (with_reducible refine quiet_d (impl_zHistory_1.calls k A2 c2 X.f2 _ _ ?_ HL2.out HT2.out)) | (with_reducible refine quiet_d2 (impl_zHistory_1.calls k A2 c2 X.f2 _ _ ?_ HL2.out HT2.out))); repeat (first | exact HR2.out | (with_reducible refine Kd.C_alloc ?_ _) | (with_reducible refine Kd.C_drewN ?_ _) | (with_reducible refine Kd.C_drew ?_)))))
            go_wp2
            go_ret
            exact ⟨rfl, pw_below_drewN HW.out _⟩
          | true =>
            obtain ⟨b, T3, H⟩ := Option.bind_eq_some_iff.mp H
            have HT3 := Aside0.mk T3
            clear T3
            cases b with
            | false =>
              obtain rfl := Option.some.inj H
              clear H
              go_wp2
              go_quiet ((go_at_call 51; (first | ((first | (with_reducible refine quiet_d (impl_zHistory_1.calls k A2 c2 X.f2 _ _ ?_ HL2.out HT2.out)) | (with_reducible refine quiet_d2 (impl_zHistory_1.calls k A2 c2 X.f2 _ _ ?_ HL2.out HT2.out))); repeat (first | exact HR2.out | (with_reducible refine Kd.C_alloc ?_ _) | (with_reducible refine Kd.C_drewN ?_ _) | (with_reducible refine Kd.C_drew ?_))) | ((first | (with_reducible refine quiet_d (impl_zHistory_1.calls k A3 c3 X.f3 _ _ ?_ HL3.out HT3.out)) | (with_reducible refine quiet_d2 (impl_zHistory_1.calls k A3 c3 X.f3 _ _ ?_ HL3.out HT3.out))); repeat (first | exact HR3.out | (with_reducible refine Kd.C_alloc ?_ _) | (with_reducible refine Kd.C_drewN ?_ _) | (with_reducible refine Kd.C_drew ?_))))))
              go_wp2
              go_ret
              exact ⟨rfl, pw_below_drewN HW.out _⟩
            | true =>
              have HN : Aside0 (histGo (impl_zHistory_1.f k) l0 n (i + 1) = some r) := ⟨H⟩
              clear H
              go_wp2
              go_quiet ((go_at_call 51; (first | ((first | (with_reducible refine quiet_d (impl_zHistory_1.calls k A2 c2 X.f2 _ _ ?_ HL2.out HT2.out)) | (with_reducible refine quiet_d2 (impl_zHistory_1.calls k A2 c2 X.f2 _ _ ?_ HL2.out HT2.out))); repeat (first | exact HR2.out | (with_reducible refine Kd.C_alloc ?_ _) | (with_reducible refine Kd.C_drewN ?_ _) | (with_reducible refine Kd.C_drew ?_))) | ((first | (with_reducible refine quiet_d (impl_zHistory_1.calls k A3 c3 X.f3 _ _ ?_ HL3.out HT3.out)) | (with_reducible refine quiet_d2 (impl_zHistory_1.calls k A3 c3 X.f3 _ _ ?_ HL3.out HT3.out))); repeat (first | exact HR3.out | (with_reducible refine Kd.C_alloc ?_ _) | (with_reducible refine Kd.C_drewN ?_ _) | (with_reducible refine Kd.C_drew ?_))))))
              go_wp2
              go_roundw
              case rel => exact ⟨n, i + 1, by have := HI.out; omega, by go_num, HN, ⟨pw_below_drewN HW.out _⟩⟩
              case measure => have h8 := HI.out; have h9 := HLEN.out; simp [intOf]; omega
        · have g0 : decide (0 < (i : Int)) = false := decide_eq_false (by omega)
          have g1 : decide (0 < i) = false := decide_eq_false g
          have g2 : decide ((i : Int) > 0) = false := decide_eq_false (by omega)
          rw [if_neg (fun h_ => g h_.1)] at H
          clear HP g
          obtain ⟨a, T2, H⟩ := Option.bind_eq_some_iff.mp H
          have HT2 := Aside0.mk T2
          clear T2
          cases a with
          | false =>
            obtain rfl := Option.some.inj H
            clear H
            go_wp2
            go_quiet ((go_at_call 51; ((first | (with_reducible refine quiet_d (impl_zHistory_1.calls k A2 c2 X.f2 _ _ ?_ HL2.out HT2.out)) | (with_reducible refine quiet_d2 (impl_zHistory_1.calls k A2 c2 X.f2 _ _ ?_ HL2.out HT2.out))); repeat (first | exact HR2.out | (with_reducible refine Kd.C_alloc ?_ _) | (with_reducible refine Kd.C_drewN ?_ _) | (with_reducible refine Kd.C_drew ?_)))))
            go_wp2
            go_ret
            exact ⟨rfl, pw_below_drewN HW.out _⟩
          | true =>
            obtain ⟨b, T3, H⟩ := Option.bind_eq_some_iff.mp H
            have HT3 := Aside0.mk T3
            clear T3
            cases b with
            | false =>
              obtain rfl := Option.some.inj H
              clear H
              go_wp2
              go_quiet ((go_at_call 51; (first | ((first | (with_reducible refine quiet_d (impl_zHistory_1.calls k A2 c2 X.f2 _ _ ?_ HL2.out HT2.out)) | (with_reducible refine quiet_d2 (impl_zHistory_1.calls k A2 c2 X.f2 _ _ ?_ HL2.out HT2.out))); repeat (first | exact HR2.out | (with_reducible refine Kd.C_alloc ?_ _) | (with_reducible refine Kd.C_drewN ?_ _) | (with_reducible refine Kd.C_drew ?_))) | ((first | (with_reducible refine quiet_d (impl_zHistory_1.calls k A3 c3 X.f3 _ _ ?_ HL3.out HT3.out)) | (with_reducible refine quiet_d2 (impl_zHistory_1.calls k A3 c3 X.f3 _ _ ?_ HL3.out HT3.out))); repeat (first | exact HR3.out | (with_reducible refine Kd.C_alloc ?_ _) | (with_reducible refine Kd.C_drewN ?_ _) | (with_reducible refine Kd.C_drew ?_))))))
              go_wp2
              go_ret
              exact ⟨rfl, pw_below_drewN HW.out _⟩
            | true =>
              have HN : Aside0 (histGo (impl_zHistory_1.f k) l0 n (i + 1) = some r) := ⟨H⟩
              clear H
              go_wp2
              go_quiet ((go_at_call 51; (first | ((first | (with_reducible refine quiet_d (impl_zHistory_1.calls k A2 c2 X.f2 _ _ ?_ HL2.out HT2.out)) | (with_reducible refine quiet_d2 (impl_zHistory_1.calls k A2 c2 X.f2 _ _ ?_ HL2.out HT2.out))); repeat (first | exact HR2.out | (with_reducible refine Kd.C_alloc ?_ _) | (with_reducible refine Kd.C_drewN ?_ _) | (with_reducible refine Kd.C_drew ?_))) | ((first | (with_reducible refine quiet_d (impl_zHistory_1.calls k A3 c3 X.f3 _ _ ?_ HL3.out HT3.out)) | (with_reducible refine quiet_d2 (impl_zHistory_1.calls k A3 c3 X.f3 _ _ ?_ HL3.out HT3.out))); repeat (first | exact HR3.out | (with_reducible refine Kd.C_alloc ?_ _) | (with_reducible refine Kd.C_drewN ?_ _) | (with_reducible refine Kd.C_drew ?_))))))
              go_wp2
              go_roundw
              case rel => exact ⟨n, i + 1, by have := HI.out; omega, by go_num, HN, ⟨pw_below_drewN HW.out _⟩⟩
              case measure => have h8 := HI.out; have h9 := HLEN.out; simp [intOf]; omega
end Go.Proofs.Ytaicfmmgmblmiaa.QFnExactSerialOrder
