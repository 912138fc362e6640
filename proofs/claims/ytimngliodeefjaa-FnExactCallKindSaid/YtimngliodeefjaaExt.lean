/- Proved: the contract of the program's CallKind, in the form in which the seat's other texts take a call: it answers as a plain function of the number and the kinds. No conditions but a bound on the length. -/
import Derived.Test.YtimngliodeefjaaCkFits
import Derived.Test.YtimngliodeefjaaPFnExactCallKindx5
namespace Go.Proofs.Ytimngliodeefjaa.Ck
open Go.RowKit Go.Proofs.YtimngliodeefjaaW.PrintWords Go.Proofs.YtimngliodeefjaaW.PrintLast Go.Proofs.YtimngliodeefjaaW.PrintMore Go.Proofs.Ytimngliodeefjaa.PFnExactCallKind
attribute [local go_sem] max2_int max_two

def kindB (k : Int) : Bool := decide (0 ≤ k ∧ k ≤ 5)
theorem isKind_eq (k : Int) : impl_isKind.f k = some (kindB k) := by
  unfold impl_isKind.f kindB
  by_cases h1 : k ≥ 0 <;> simp [h1]
def numB (k : Int) : Bool := decide (k = 1 ∨ k = 2)
theorem numeric_eq (k : Int) : impl_numeric.f k = some (numB k) := by
  unfold impl_numeric.f numB
  by_cases h1 : k = 1
  · simp [h1]
  · simp [h1]; rfl
def goB (a b : Int) : Bool := decide (a = b ∨ a = 0 ∨ b = 0) || (numB a && numB b)
theorem go_eq (a b : Int) : impl_goTogether.f a b = some (goB a b) := by
  unfold impl_goTogether.f goB
  rw [numeric_eq, numeric_eq]
  by_cases h1 : a = b
  · simp [h1]
  · by_cases h2 : a = 0
    · simp [h2]
    · by_cases h3 : b = 0
      · simp [h3]
      · simp only [if_neg h1, if_neg h2, if_neg h3, Option.bind_some]
        cases numB a <;> simp [h1, h2, h3]

/-- What CallKind answers of valid kinds. -/
def ckPlain (fn : Int) (kl : List Int) : Int :=
  if fn = 1 then (if kl.length = 1 ∧ (numB (kl.getD 0 0) = true ∨ kl.getD 0 0 = 0) then kl.getD 0 0 else -1)
  else if fn = 2 then (if fitsB kl [3] = true then 1 else -1)
  else if fn = 3 ∨ fn = 4 ∨ fn = 11 then (if fitsB kl [3] = true then 3 else -1)
  else if fn = 5 then (if fitsB kl [3, 1, 1] = true then 3 else -1)
  else if fn = 6 then (if kl.length = 2 ∧ goB (kl.getD 0 0) (kl.getD 1 0) = true then kl.getD 0 0 else -1)
  else if fn = 7 ∨ fn = 8 ∨ fn = 9 then (if fitsB kl [5] = true then 1 else -1)
  else if fn = 10 then (if fitsB kl [2] = true then 2 else -1)
  else if fn = 12 ∨ fn = 13 then (if kl.length = 2 ∧ (kl.getD 0 0 = kl.getD 1 0 ∨ kl.getD 0 0 = 0 ∨ kl.getD 1 0 = 0) then (if kl.getD 0 0 < kl.getD 1 0 then kl.getD 1 0 else kl.getD 0 0) else -1)
  else -1
def ckAll (fn : Int) (kl : List Int) : Int := if (List.range kl.length).all (fun j => kindB (kl.getD j 0)) = true then ckPlain fn kl else -1

theorem drewN_cell (w : World) (n : Nat) (a : Addr) : (w.drewN n).cell? a = w.cell? a := by simp
theorem add0 (b j : Nat) : (⟨b, 0, none⟩ : Addr).add j = ⟨b, j, none⟩ := by
  unfold Addr.add
  split
  · simp_all
  · simp

theorem C_lit (W : World) (b : Nat) (l : List Int) (hl : l.length ≤ 1000) (h : ∀ j, j < l.length → W.cell? ⟨b, j, none⟩ = some (.int .i64 (l.getD j 0))) : Kd.C (Kd.int .i64) W (some ⟨b, 0, none⟩) l.length l :=
  Kd.C_of_reads (d := (0 : Int)) (h1 := fun _ => rfl) ⟨rfl, by omega, fun _ => ⟨⟨b, 0, none⟩, rfl, fun j hj => by rw [add0]; exact h j hj⟩⟩

theorem fits_at1 (w : World) (A1 : Option Addr) (c1 : Nat) (l1 : List Int) (a : Int) (m : Nat) (hr : Kd.C (Kd.int .i64) (w.alloc (.cells #[.slice A1 l1.length c1] 31)) A1 l1.length l1) (hm : l1.length ≤ 140737488355328) :
    Calls Try.prog 33 #[.slice (some ⟨w.heap.size + 1, 0, none⟩) 1 1, .pointer (some ⟨w.heap.size, 0, none⟩)] (((w.alloc (.cells #[.slice A1 l1.length c1] 31)).drewN m).alloc (.cells #[.int .i64 a] 3))
      fun e w' => e = .returned (.bool (fitsB l1 [a])) ∧ Drawn0 (((w.alloc (.cells #[.slice A1 l1.length c1] 31)).drewN m).alloc (.cells #[.int .i64 a] 3)) w' :=
  fits_calls w.heap.size A1 c1 l1 (some ⟨w.heap.size + 1, 0, none⟩) 1 [a] _ (by go_simp) (Kd.C_below hr (by repeat (first | exact Below.refl _ _ | apply below_alloc | apply pw_below_drewN))) hm
    (C_lit _ _ [a] (by simp) (fun j hj => by
      have : j = 0 := by simp at hj; exact hj
      subst this
      go_simp))
theorem fits_at3 (w : World) (A1 : Option Addr) (c1 : Nat) (l1 : List Int) (a b d : Int) (m : Nat) (hr : Kd.C (Kd.int .i64) (w.alloc (.cells #[.slice A1 l1.length c1] 31)) A1 l1.length l1) (hm : l1.length ≤ 140737488355328) :
    Calls Try.prog 33 #[.slice (some ⟨w.heap.size + 1, 0, none⟩) 3 3, .pointer (some ⟨w.heap.size, 0, none⟩)] (((w.alloc (.cells #[.slice A1 l1.length c1] 31)).drewN m).alloc (.cells #[.int .i64 a, .int .i64 b, .int .i64 d] 3))
      fun e w' => e = .returned (.bool (fitsB l1 [a, b, d])) ∧ Drawn0 (((w.alloc (.cells #[.slice A1 l1.length c1] 31)).drewN m).alloc (.cells #[.int .i64 a, .int .i64 b, .int .i64 d] 3)) w' :=
  fits_calls w.heap.size A1 c1 l1 (some ⟨w.heap.size + 1, 0, none⟩) 3 [a, b, d] _ (by go_simp) (Kd.C_below hr (by repeat (first | exact Below.refl _ _ | apply below_alloc | apply pw_below_drewN))) hm
    (C_lit _ _ [a, b, d] (by simp) (fun j hj => by
      have : j = 0 ∨ j = 1 ∨ j = 2 := by simp at hj; omega
      rcases this with rfl | rfl | rfl <;> go_simp))

set_option maxHeartbeats 40000000 in
set_option maxRecDepth 100000 in
theorem ck_calls (fn : Int) (A1 : Option Addr) (c1 : Nat) (l1 : List Int) (w : World) (hr1 : Kd.C (Kd.int .i64) w A1 l1.length l1) (hm : l1.length ≤ 140737488355328) :
    Calls Try.prog 19 #[.int .i64 fn, .slice A1 l1.length c1] w fun e w' => e = .returned (.int .i64 (ckAll fn l1)) ∧ Below w.heap.size w w' := by
  have HR := Aside0.mk (Kd.C_below hr1 (below_alloc (Below.refl w.heap.size w) (.cells #[.slice A1 l1.length c1] 31)))
  clear hr1
  go_enter Try.func19, Try.ntmps19
  go_wp2
  go_loopw [10] (fun v w' => ∃ x : Int, v = .int .i64 x ∧ Aside0 (0 ≤ x ∧ x ≤ l1.length) ∧ Aside0 (∀ j : Nat, (j : Int) < x → kindB (l1.getD j 0) = true) ∧ Drawn0 (w.alloc (.cells #[.slice A1 l1.length c1] 31)) w') (fun v _ => l1.length - (intOf v).toNat)
  case atStart => exact ⟨0, rfl, ⟨by omega, by omega⟩, ⟨fun j hj => by omega⟩, Drawn0.refl _⟩
  case round =>
    obtain ⟨x, rfl, HB, HX, ⟨m1, rfl⟩⟩ := hrel
    by_cases hlt : x < (l1.length : Int)
    · have hb0 : decide (x < (l1.length : Int)) = true := decide_eq_true hlt
      have p1 : 0 ≤ x := HB.out.1
      obtain ⟨ad, e1, hx1⟩ := Kd.at_int HR.out x p1 hlt
      cases e1
      have HLT := Aside0.mk hlt
      have HK := Aside0.mk (isKind_eq (rd l1 x))
      have HG : Aside0 (kindB (rd l1 x) = kindB (l1.getD x.toNat 0)) := ⟨rfl⟩
      replace p1 := eq_true p1
      replace hlt := eq_true hlt
      generalize hq : kindB (rd l1 x) = q at HK HG
      clear hq
      cases q with
      | true =>
        go_wp2_with (go_at_call 22; refine (impl_isKind.calls _ _ _ HK.out).mono ?_; rintro e w' ⟨rfl, ⟨nd, rfl⟩⟩)
        go_roundw
        case rel => exact ⟨x + 1, by have := HLT.out; have := HB.out; first | rfl | (unfold wrap64; congr 1; omega), ⟨by have := HLT.out; have := HB.out; omega⟩, ⟨fun j hj => by
            by_cases hjx : (j : Int) < x
            · exact HX.out j hjx
            · have : j = x.toNat := by omega
              subst this
              exact HG.out.symm⟩, by repeat (first | exact Drawn0.refl _ | apply Drawn0.step)⟩
        case measure => have := HLT.out; have := HB.out; simp [intOf, wrap64]; omega
      | false =>
        have HN : Aside0 (ckAll fn l1 = -1) := ⟨by
          unfold ckAll
          rw [if_neg]
          intro h
          rw [List.all_eq_true] at h
          have := h x.toNat (List.mem_range.2 (by have := HLT.out; have := HB.out; omega))
          rw [← HG.out] at this
          cases this⟩
        go_wp2_with (go_at_call 22; refine (impl_isKind.calls _ _ _ HK.out).mono ?_; rintro e w' ⟨rfl, ⟨nd, rfl⟩⟩)
        go_ret
        exact ⟨by rw [HN.out]; first | rfl | simp, by repeat (first | exact Below.refl _ _ | apply below_alloc | apply pw_below_drewN | apply below_drew1 | exact Nat.le_refl _)⟩
    · have hb0 : decide (x < (l1.length : Int)) = false := decide_eq_false hlt
      have HA : Aside0 (ckAll fn l1 = ckPlain fn l1) := ⟨by
        unfold ckAll
        rw [if_pos]
        rw [List.all_eq_true]
        intro j hj
        exact HX.out j (by have := List.mem_range.1 hj; omega)⟩
      clear hlt
      have HM := Aside0.mk hm
      clear hm
      by_cases f2 : fn = 2
      · subst f2
        generalize hq : fitsB l1 [3] = q
        have HP : Aside0 (ckPlain 2 l1 = if q = true then 1 else -1) := ⟨by unfold ckPlain; rw [hq]; simp⟩
        have HC := Aside0.mk (fits_at1 w A1 c1 l1 3 m1 HR.out HM.out)
        rw [hq] at HC
        clear hq
        cases q with
        | true =>
          go_wp2_with (refine HC.out.mono ?_; rintro e w' ⟨rfl, ⟨nd, rfl⟩⟩)
          go_ret
          exact ⟨by rw [HA.out, HP.out]; first | rfl | simp, by repeat (first | exact Below.refl _ _ | apply below_alloc | apply pw_below_drewN | apply below_drew1 | exact Nat.le_refl _)⟩
        | false =>
          go_wp2_with (refine HC.out.mono ?_; rintro e w' ⟨rfl, ⟨nd, rfl⟩⟩)
          go_ret
          exact ⟨by rw [HA.out, HP.out]; first | rfl | simp, by repeat (first | exact Below.refl _ _ | apply below_alloc | apply pw_below_drewN | apply below_drew1 | exact Nat.le_refl _)⟩
      by_cases f3 : fn = 3
      · subst f3
        generalize hq : fitsB l1 [3] = q
        have HP : Aside0 (ckPlain 3 l1 = if q = true then 3 else -1) := ⟨by unfold ckPlain; rw [hq]; simp⟩
        have HC := Aside0.mk (fits_at1 w A1 c1 l1 3 m1 HR.out HM.out)
        rw [hq] at HC
        clear hq
        cases q with
        | true =>
          go_wp2_with (refine HC.out.mono ?_; rintro e w' ⟨rfl, ⟨nd, rfl⟩⟩)
          go_ret
          exact ⟨by rw [HA.out, HP.out]; first | rfl | simp, by repeat (first | exact Below.refl _ _ | apply below_alloc | apply pw_below_drewN | apply below_drew1 | exact Nat.le_refl _)⟩
        | false =>
          go_wp2_with (refine HC.out.mono ?_; rintro e w' ⟨rfl, ⟨nd, rfl⟩⟩)
          go_ret
          exact ⟨by rw [HA.out, HP.out]; first | rfl | simp, by repeat (first | exact Below.refl _ _ | apply below_alloc | apply pw_below_drewN | apply below_drew1 | exact Nat.le_refl _)⟩
      by_cases f4 : fn = 4
      · subst f4
        generalize hq : fitsB l1 [3] = q
        have HP : Aside0 (ckPlain 4 l1 = if q = true then 3 else -1) := ⟨by unfold ckPlain; rw [hq]; simp⟩
        have HC := Aside0.mk (fits_at1 w A1 c1 l1 3 m1 HR.out HM.out)
        rw [hq] at HC
        clear hq
        cases q with
        | true =>
          go_wp2_with (refine HC.out.mono ?_; rintro e w' ⟨rfl, ⟨nd, rfl⟩⟩)
          go_ret
          exact ⟨by rw [HA.out, HP.out]; first | rfl | simp, by repeat (first | exact Below.refl _ _ | apply below_alloc | apply pw_below_drewN | apply below_drew1 | exact Nat.le_refl _)⟩
        | false =>
          go_wp2_with (refine HC.out.mono ?_; rintro e w' ⟨rfl, ⟨nd, rfl⟩⟩)
          go_ret
          exact ⟨by rw [HA.out, HP.out]; first | rfl | simp, by repeat (first | exact Below.refl _ _ | apply below_alloc | apply pw_below_drewN | apply below_drew1 | exact Nat.le_refl _)⟩
      by_cases f5 : fn = 5
      · subst f5
        generalize hq : fitsB l1 [3, 1, 1] = q
        have HP : Aside0 (ckPlain 5 l1 = if q = true then 3 else -1) := ⟨by unfold ckPlain; rw [hq]; simp⟩
        have HC := Aside0.mk (fits_at3 w A1 c1 l1 3 1 1 m1 HR.out HM.out)
        rw [hq] at HC
        clear hq
        cases q with
        | true =>
          go_wp2_with (refine HC.out.mono ?_; rintro e w' ⟨rfl, ⟨nd, rfl⟩⟩)
          go_ret
          exact ⟨by rw [HA.out, HP.out]; first | rfl | simp, by repeat (first | exact Below.refl _ _ | apply below_alloc | apply pw_below_drewN | apply below_drew1 | exact Nat.le_refl _)⟩
        | false =>
          go_wp2_with (refine HC.out.mono ?_; rintro e w' ⟨rfl, ⟨nd, rfl⟩⟩)
          go_ret
          exact ⟨by rw [HA.out, HP.out]; first | rfl | simp, by repeat (first | exact Below.refl _ _ | apply below_alloc | apply pw_below_drewN | apply below_drew1 | exact Nat.le_refl _)⟩
      by_cases f7 : fn = 7
      · subst f7
        generalize hq : fitsB l1 [5] = q
        have HP : Aside0 (ckPlain 7 l1 = if q = true then 1 else -1) := ⟨by unfold ckPlain; rw [hq]; simp⟩
        have HC := Aside0.mk (fits_at1 w A1 c1 l1 5 m1 HR.out HM.out)
        rw [hq] at HC
        clear hq
        cases q with
        | true =>
          go_wp2_with (refine HC.out.mono ?_; rintro e w' ⟨rfl, ⟨nd, rfl⟩⟩)
          go_ret
          exact ⟨by rw [HA.out, HP.out]; first | rfl | simp, by repeat (first | exact Below.refl _ _ | apply below_alloc | apply pw_below_drewN | apply below_drew1 | exact Nat.le_refl _)⟩
        | false =>
          go_wp2_with (refine HC.out.mono ?_; rintro e w' ⟨rfl, ⟨nd, rfl⟩⟩)
          go_ret
          exact ⟨by rw [HA.out, HP.out]; first | rfl | simp, by repeat (first | exact Below.refl _ _ | apply below_alloc | apply pw_below_drewN | apply below_drew1 | exact Nat.le_refl _)⟩
      by_cases f8 : fn = 8
      · subst f8
        generalize hq : fitsB l1 [5] = q
        have HP : Aside0 (ckPlain 8 l1 = if q = true then 1 else -1) := ⟨by unfold ckPlain; rw [hq]; simp⟩
        have HC := Aside0.mk (fits_at1 w A1 c1 l1 5 m1 HR.out HM.out)
        rw [hq] at HC
        clear hq
        cases q with
        | true =>
          go_wp2_with (refine HC.out.mono ?_; rintro e w' ⟨rfl, ⟨nd, rfl⟩⟩)
          go_ret
          exact ⟨by rw [HA.out, HP.out]; first | rfl | simp, by repeat (first | exact Below.refl _ _ | apply below_alloc | apply pw_below_drewN | apply below_drew1 | exact Nat.le_refl _)⟩
        | false =>
          go_wp2_with (refine HC.out.mono ?_; rintro e w' ⟨rfl, ⟨nd, rfl⟩⟩)
          go_ret
          exact ⟨by rw [HA.out, HP.out]; first | rfl | simp, by repeat (first | exact Below.refl _ _ | apply below_alloc | apply pw_below_drewN | apply below_drew1 | exact Nat.le_refl _)⟩
      by_cases f9 : fn = 9
      · subst f9
        generalize hq : fitsB l1 [5] = q
        have HP : Aside0 (ckPlain 9 l1 = if q = true then 1 else -1) := ⟨by unfold ckPlain; rw [hq]; simp⟩
        have HC := Aside0.mk (fits_at1 w A1 c1 l1 5 m1 HR.out HM.out)
        rw [hq] at HC
        clear hq
        cases q with
        | true =>
          go_wp2_with (refine HC.out.mono ?_; rintro e w' ⟨rfl, ⟨nd, rfl⟩⟩)
          go_ret
          exact ⟨by rw [HA.out, HP.out]; first | rfl | simp, by repeat (first | exact Below.refl _ _ | apply below_alloc | apply pw_below_drewN | apply below_drew1 | exact Nat.le_refl _)⟩
        | false =>
          go_wp2_with (refine HC.out.mono ?_; rintro e w' ⟨rfl, ⟨nd, rfl⟩⟩)
          go_ret
          exact ⟨by rw [HA.out, HP.out]; first | rfl | simp, by repeat (first | exact Below.refl _ _ | apply below_alloc | apply pw_below_drewN | apply below_drew1 | exact Nat.le_refl _)⟩
      by_cases f10 : fn = 10
      · subst f10
        generalize hq : fitsB l1 [2] = q
        have HP : Aside0 (ckPlain 10 l1 = if q = true then 2 else -1) := ⟨by unfold ckPlain; rw [hq]; simp⟩
        have HC := Aside0.mk (fits_at1 w A1 c1 l1 2 m1 HR.out HM.out)
        rw [hq] at HC
        clear hq
        cases q with
        | true =>
          go_wp2_with (refine HC.out.mono ?_; rintro e w' ⟨rfl, ⟨nd, rfl⟩⟩)
          go_ret
          exact ⟨by rw [HA.out, HP.out]; first | rfl | simp, by repeat (first | exact Below.refl _ _ | apply below_alloc | apply pw_below_drewN | apply below_drew1 | exact Nat.le_refl _)⟩
        | false =>
          go_wp2_with (refine HC.out.mono ?_; rintro e w' ⟨rfl, ⟨nd, rfl⟩⟩)
          go_ret
          exact ⟨by rw [HA.out, HP.out]; first | rfl | simp, by repeat (first | exact Below.refl _ _ | apply below_alloc | apply pw_below_drewN | apply below_drew1 | exact Nat.le_refl _)⟩
      by_cases f11 : fn = 11
      · subst f11
        generalize hq : fitsB l1 [3] = q
        have HP : Aside0 (ckPlain 11 l1 = if q = true then 3 else -1) := ⟨by unfold ckPlain; rw [hq]; simp⟩
        have HC := Aside0.mk (fits_at1 w A1 c1 l1 3 m1 HR.out HM.out)
        rw [hq] at HC
        clear hq
        cases q with
        | true =>
          go_wp2_with (refine HC.out.mono ?_; rintro e w' ⟨rfl, ⟨nd, rfl⟩⟩)
          go_ret
          exact ⟨by rw [HA.out, HP.out]; first | rfl | simp, by repeat (first | exact Below.refl _ _ | apply below_alloc | apply pw_below_drewN | apply below_drew1 | exact Nat.le_refl _)⟩
        | false =>
          go_wp2_with (refine HC.out.mono ?_; rintro e w' ⟨rfl, ⟨nd, rfl⟩⟩)
          go_ret
          exact ⟨by rw [HA.out, HP.out]; first | rfl | simp, by repeat (first | exact Below.refl _ _ | apply below_alloc | apply pw_below_drewN | apply below_drew1 | exact Nat.le_refl _)⟩
      by_cases f1 : fn = 1
      · subst f1
        by_cases hl : l1.length = 1
        · have hl0 : ((l1.length : Int) == 1) = true := by rw [hl]; rfl
          have hl1 : (0 : Int) < (l1.length : Int) := by omega
          obtain ⟨ad, e1, hx1⟩ := Kd.at_int HR.out 0 (by omega) hl1
          cases e1
          rw [show ((0 : Int)).toNat = 0 from rfl, Addr.add_zero'] at hx1
          have hl2 := eq_true hl1
          have hl3 : (0 < l1.length) = True := eq_true (by omega)
          have HL := Aside0.mk hl
          clear hl hl1
          have HE : Aside0 (rd l1 0 = l1.getD 0 0) := ⟨rfl⟩
          generalize rd l1 0 = e0 at hx1 HE
          have HN := Aside0.mk (numeric_eq e0)
          generalize hq : numB e0 = q at HN
          have HQ := Aside0.mk hq
          clear hq
          cases q with
          | true =>
            have HP : Aside0 (ckPlain 1 l1 = e0) := ⟨by unfold ckPlain; rw [if_pos rfl, if_pos ⟨HL.out, by rw [← HE.out]; exact .inl HQ.out⟩, ← HE.out]⟩
            go_wp2_with (go_at_call 34; refine (impl_numeric.calls _ _ _ HN.out).mono ?_; rintro e w' ⟨rfl, ⟨nd, rfl⟩⟩)
            go_ret
            exact ⟨by rw [HA.out, HP.out]; first | rfl | simp, by repeat (first | exact Below.refl _ _ | apply below_alloc | apply pw_below_drewN | apply below_drew1 | exact Nat.le_refl _)⟩
          | false =>
            by_cases t0 : e0 = 0
            · have t0a : (e0 == 0) = true := beq_iff_eq.mpr t0
              have HP : Aside0 (ckPlain 1 l1 = e0) := ⟨by unfold ckPlain; rw [if_pos rfl, if_pos ⟨HL.out, by rw [← HE.out]; exact .inr t0⟩, ← HE.out]⟩
              clear t0
              go_wp2_with (go_at_call 34; refine (impl_numeric.calls _ _ _ HN.out).mono ?_; rintro e w' ⟨rfl, ⟨nd, rfl⟩⟩)
              go_ret
              exact ⟨by rw [HA.out, HP.out]; first | rfl | simp, by repeat (first | exact Below.refl _ _ | apply below_alloc | apply pw_below_drewN | apply below_drew1 | exact Nat.le_refl _)⟩
            · have t0a : (e0 == 0) = false := beq_eq_false_iff_ne.mpr t0
              have HP : Aside0 (ckPlain 1 l1 = -1) := ⟨by unfold ckPlain; rw [if_pos rfl, if_neg]; rw [← HE.out, HQ.out]; rintro ⟨_, h | h⟩; (· cases h); (· exact t0 h)⟩
              clear t0
              go_wp2_with (go_at_call 34; refine (impl_numeric.calls _ _ _ HN.out).mono ?_; rintro e w' ⟨rfl, ⟨nd, rfl⟩⟩)
              go_ret
              exact ⟨by rw [HA.out, HP.out]; first | rfl | simp, by repeat (first | exact Below.refl _ _ | apply below_alloc | apply pw_below_drewN | apply below_drew1 | exact Nat.le_refl _)⟩
        · have hl0 : ((l1.length : Int) == 1) = false := by simp; omega
          have hl4 : (l1.length == 1) = false := by simpa using hl
          have HP : Aside0 (ckPlain 1 l1 = -1) := ⟨by unfold ckPlain; simp [hl]⟩
          clear hl
          go_wp2_with fail
          go_ret
          exact ⟨by rw [HA.out, HP.out]; first | rfl | simp, by repeat (first | exact Below.refl _ _ | apply below_alloc | apply pw_below_drewN | apply below_drew1 | exact Nat.le_refl _)⟩
      by_cases f6 : fn = 6
      · subst f6
        have hbel : Below w.heap.size w ((w.alloc (.cells #[.slice A1 l1.length c1] 31)).drewN m1) := by repeat (first | exact Below.refl _ _ | apply below_alloc | apply pw_below_drewN)
        have hbox : ((w.alloc (.cells #[.slice A1 l1.length c1] 31)).drewN m1).cell? ⟨w.heap.size, 0, none⟩ = some (.slice A1 l1.length c1) := by go_simp
        have HRW := Aside0.mk (Kd.C_below HR.out (pw_below_drewN (Below.refl _ _) m1))
        have HBE := Aside0.mk hbel
        clear hbel HR
        generalize (w.alloc (.cells #[.slice A1 l1.length c1] 31)).drewN m1 = W1 at *
        have HR := HRW
        clear HRW
        by_cases hl : l1.length = 2
        · have hl0 : ((l1.length : Int) == 2) = true := by rw [hl]; rfl
          have hl1 : (0 : Int) < (l1.length : Int) := by omega
          have hm1 : (1 : Int) < (l1.length : Int) := by omega
          obtain ⟨ad, e1, hx1⟩ := Kd.at_int HR.out 0 (by omega) hl1
          obtain ⟨ad2, e2, hx2⟩ := Kd.at_int HR.out 1 (by omega) hm1
          cases e1
          cases e2
          rw [show ((0 : Int)).toNat = 0 from rfl, Addr.add_zero'] at hx1
          rw [show ((1 : Int)).toNat = 1 from rfl] at hx2
          have hl2 := eq_true hl1
          have hl3 : (0 < l1.length) = True := eq_true (by omega)
          have hm2 := eq_true hm1
          have hm3 : (1 < l1.length) = True := eq_true (by omega)
          have HL := Aside0.mk hl
          clear hl hl1 hm1
          have HE : Aside0 (rd l1 0 = l1.getD 0 0) := ⟨rfl⟩
          have HF : Aside0 (rd l1 1 = l1.getD 1 0) := ⟨rfl⟩
          generalize rd l1 0 = e0 at hx1 HE
          generalize rd l1 1 = e1 at hx2 HF
          have hx3 : W1.cell? ⟨ad.block, ad.off + 1, none⟩ = some (Value.int IntKind.i64 e1) := by simpa [Addr.add] using hx2
          have HN := Aside0.mk (go_eq e0 e1)
          generalize hq : goB e0 e1 = q at HN
          have HQ := Aside0.mk hq
          clear hq
          cases q with
          | true =>
            have HP : Aside0 (ckPlain 6 l1 = e0) := ⟨by unfold ckPlain; rw [← HE.out, ← HF.out]; simp [HL.out, HQ.out]⟩
            go_wp2_with fail
            go_quiet (first | (go_at_call 35; (with_reducible refine (impl_goTogether.calls _ _ _ _ HN.out).mono ?_); rintro e w' ⟨rfl, ⟨nd, rfl⟩⟩; (try first | exact ⟨rfl, _, World.drewN_drewN _ _ _⟩ | exact ⟨rfl, _, Eq.trans (World.drewN_drewN _ _ _) (congrArg (World.drewN _) (Nat.add_assoc _ _ _))⟩)))
            go_wp2
            go_ret
            exact ⟨by rw [HA.out, HP.out]; first | rfl | simp, by repeat (first | exact HBE.out | apply below_alloc | apply pw_below_drewN | apply below_drew1 | exact Nat.le_refl _)⟩
          | false =>
            have HP : Aside0 (ckPlain 6 l1 = -1) := ⟨by unfold ckPlain; rw [← HE.out, ← HF.out]; simp [HL.out, HQ.out]⟩
            go_wp2_with fail
            go_quiet (first | (go_at_call 35; (with_reducible refine (impl_goTogether.calls _ _ _ _ HN.out).mono ?_); rintro e w' ⟨rfl, ⟨nd, rfl⟩⟩; (try first | exact ⟨rfl, _, World.drewN_drewN _ _ _⟩ | exact ⟨rfl, _, Eq.trans (World.drewN_drewN _ _ _) (congrArg (World.drewN _) (Nat.add_assoc _ _ _))⟩)))
            go_wp2
            go_ret
            exact ⟨by rw [HA.out, HP.out]; first | rfl | simp, by repeat (first | exact HBE.out | apply below_alloc | apply pw_below_drewN | apply below_drew1 | exact Nat.le_refl _)⟩
        · have hl0 : ((l1.length : Int) == 2) = false := by simp; omega
          have hl4 : (l1.length == 2) = false := by simpa using hl
          have HP : Aside0 (ckPlain 6 l1 = -1) := ⟨by unfold ckPlain; simp [hl]⟩
          clear hl
          go_wp2_with fail
          go_quiet (fail)
          go_wp2
          go_ret
          exact ⟨by rw [HA.out, HP.out]; first | rfl | simp, by repeat (first | exact HBE.out | apply below_alloc | apply pw_below_drewN | apply below_drew1 | exact Nat.le_refl _)⟩
      by_cases f12 : fn = 12
      · subst f12
        have hbel : Below w.heap.size w ((w.alloc (.cells #[.slice A1 l1.length c1] 31)).drewN m1) := by repeat (first | exact Below.refl _ _ | apply below_alloc | apply pw_below_drewN)
        have hbox : ((w.alloc (.cells #[.slice A1 l1.length c1] 31)).drewN m1).cell? ⟨w.heap.size, 0, none⟩ = some (.slice A1 l1.length c1) := by go_simp
        have HRW := Aside0.mk (Kd.C_below HR.out (pw_below_drewN (Below.refl _ _) m1))
        have HBE := Aside0.mk hbel
        clear hbel HR
        generalize (w.alloc (.cells #[.slice A1 l1.length c1] 31)).drewN m1 = W1 at *
        have HR := HRW
        clear HRW
        by_cases hl : l1.length = 2
        · have hl0 : ((l1.length : Int) == 2) = true := by rw [hl]; rfl
          have hl1 : (0 : Int) < (l1.length : Int) := by omega
          have hm1 : (1 : Int) < (l1.length : Int) := by omega
          obtain ⟨ad, e1, hx1⟩ := Kd.at_int HR.out 0 (by omega) hl1
          obtain ⟨ad2, e2, hx2⟩ := Kd.at_int HR.out 1 (by omega) hm1
          cases e1
          cases e2
          rw [show ((0 : Int)).toNat = 0 from rfl, Addr.add_zero'] at hx1
          rw [show ((1 : Int)).toNat = 1 from rfl] at hx2
          have hl2 := eq_true hl1
          have hl3 : (0 < l1.length) = True := eq_true (by omega)
          have hm2 := eq_true hm1
          have hm3 : (1 < l1.length) = True := eq_true (by omega)
          have HL := Aside0.mk hl
          clear hl hl1 hm1
          have HE : Aside0 (rd l1 0 = l1.getD 0 0) := ⟨rfl⟩
          have HF : Aside0 (rd l1 1 = l1.getD 1 0) := ⟨rfl⟩
          generalize rd l1 0 = e0 at hx1 HE
          generalize rd l1 1 = e1 at hx2 HF
          have hx3 : W1.cell? ⟨ad.block, ad.off + 1, none⟩ = some (Value.int IntKind.i64 e1) := by simpa [Addr.add] using hx2
          by_cases t1 : e0 = e1
          · subst t1
            have HP : Aside0 (ckPlain 12 l1 = e0) := ⟨by unfold ckPlain; rw [← HE.out, ← HF.out]; simp [HL.out]⟩
            have t1a : (e0 == e0) = true := by simp
            have t1c : ¬ (e0 < e0) := by omega
            go_wp2_with fail
            repeat (go_quiet (fail); try go_wp2)
            go_ret
            exact ⟨by rw [HA.out, HP.out]; first | rfl | simp, by repeat (first | exact HBE.out | apply below_alloc | apply pw_below_drewN | apply below_drew1 | exact Nat.le_refl _)⟩
          · have t1a : (e0 == e1) = false := beq_eq_false_iff_ne.mpr t1
            have T1 := Aside0.mk t1
            clear t1
            by_cases t2 : e0 = 0
            · have t2a : (e0 == 0) = true := beq_iff_eq.mpr t2
              have T2 := Aside0.mk t2
              clear t2
              by_cases t4 : e0 < e1
              · have t4a : decide (e0 < e1) = true := decide_eq_true t4
                have HP : Aside0 (ckPlain 12 l1 = e1) := ⟨by unfold ckPlain; rw [← HE.out, ← HF.out, if_neg (by decide), if_neg (by decide), if_neg (by decide), if_neg (by decide), if_neg (by decide), if_neg (by decide), if_neg (by decide), if_pos (by decide), if_pos ⟨HL.out, .inr (.inl T2.out)⟩, if_pos t4]⟩
                go_wp2_with fail
                repeat (go_quiet (fail); try go_wp2)
                go_ret
                exact ⟨by rw [HA.out, HP.out]; first | rfl | simp, by repeat (first | exact HBE.out | apply below_alloc | apply pw_below_drewN | apply below_drew1 | exact Nat.le_refl _)⟩
              · have t4a : decide (e0 < e1) = false := decide_eq_false t4
                have HP : Aside0 (ckPlain 12 l1 = e0) := ⟨by unfold ckPlain; rw [← HE.out, ← HF.out, if_neg (by decide), if_neg (by decide), if_neg (by decide), if_neg (by decide), if_neg (by decide), if_neg (by decide), if_neg (by decide), if_pos (by decide), if_pos ⟨HL.out, .inr (.inl T2.out)⟩, if_neg t4]⟩
                go_wp2_with fail
                repeat (go_quiet (fail); try go_wp2)
                go_ret
                exact ⟨by rw [HA.out, HP.out]; first | rfl | simp, by repeat (first | exact HBE.out | apply below_alloc | apply pw_below_drewN | apply below_drew1 | exact Nat.le_refl _)⟩
            · have t2a : (e0 == 0) = false := beq_eq_false_iff_ne.mpr t2
              have T2 := Aside0.mk t2
              clear t2
              by_cases t3 : e1 = 0
              · have t3a : (e1 == 0) = true := beq_iff_eq.mpr t3
                have T3 := Aside0.mk t3
                clear t3
                by_cases t4 : e0 < e1
                · have t4a : decide (e0 < e1) = true := decide_eq_true t4
                  have HP : Aside0 (ckPlain 12 l1 = e1) := ⟨by unfold ckPlain; rw [← HE.out, ← HF.out, if_neg (by decide), if_neg (by decide), if_neg (by decide), if_neg (by decide), if_neg (by decide), if_neg (by decide), if_neg (by decide), if_pos (by decide), if_pos ⟨HL.out, .inr (.inr T3.out)⟩, if_pos t4]⟩
                  go_wp2_with fail
                  repeat (go_quiet (fail); try go_wp2)
                  go_ret
                  exact ⟨by rw [HA.out, HP.out]; first | rfl | simp, by repeat (first | exact HBE.out | apply below_alloc | apply pw_below_drewN | apply below_drew1 | exact Nat.le_refl _)⟩
                · have t4a : decide (e0 < e1) = false := decide_eq_false t4
                  have HP : Aside0 (ckPlain 12 l1 = e0) := ⟨by unfold ckPlain; rw [← HE.out, ← HF.out, if_neg (by decide), if_neg (by decide), if_neg (by decide), if_neg (by decide), if_neg (by decide), if_neg (by decide), if_neg (by decide), if_pos (by decide), if_pos ⟨HL.out, .inr (.inr T3.out)⟩, if_neg t4]⟩
                  go_wp2_with fail
                  repeat (go_quiet (fail); try go_wp2)
                  go_ret
                  exact ⟨by rw [HA.out, HP.out]; first | rfl | simp, by repeat (first | exact HBE.out | apply below_alloc | apply pw_below_drewN | apply below_drew1 | exact Nat.le_refl _)⟩
              · have t3a : (e1 == 0) = false := beq_eq_false_iff_ne.mpr t3
                have HP : Aside0 (ckPlain 12 l1 = -1) := ⟨by unfold ckPlain; rw [← HE.out, ← HF.out]; simp [T1.out, T2.out, t3]⟩
                clear t3
                go_wp2_with fail
                repeat (go_quiet (fail); try go_wp2)
                go_ret
                exact ⟨by rw [HA.out, HP.out]; first | rfl | simp, by repeat (first | exact HBE.out | apply below_alloc | apply pw_below_drewN | apply below_drew1 | exact Nat.le_refl _)⟩
        · have hl0 : ((l1.length : Int) == 2) = false := by simp; omega
          have hl4 : (l1.length == 2) = false := by simpa using hl
          have HP : Aside0 (ckPlain 12 l1 = -1) := ⟨by unfold ckPlain; simp [hl]⟩
          clear hl
          go_wp2_with fail
          go_quiet (fail)
          go_wp2
          go_ret
          exact ⟨by rw [HA.out, HP.out]; first | rfl | simp, by repeat (first | exact HBE.out | apply below_alloc | apply pw_below_drewN | apply below_drew1 | exact Nat.le_refl _)⟩
      by_cases f13 : fn = 13
      · subst f13
        have hbel : Below w.heap.size w ((w.alloc (.cells #[.slice A1 l1.length c1] 31)).drewN m1) := by repeat (first | exact Below.refl _ _ | apply below_alloc | apply pw_below_drewN)
        have hbox : ((w.alloc (.cells #[.slice A1 l1.length c1] 31)).drewN m1).cell? ⟨w.heap.size, 0, none⟩ = some (.slice A1 l1.length c1) := by go_simp
        have HRW := Aside0.mk (Kd.C_below HR.out (pw_below_drewN (Below.refl _ _) m1))
        have HBE := Aside0.mk hbel
        clear hbel HR
        generalize (w.alloc (.cells #[.slice A1 l1.length c1] 31)).drewN m1 = W1 at *
        have HR := HRW
        clear HRW
        by_cases hl : l1.length = 2
        · have hl0 : ((l1.length : Int) == 2) = true := by rw [hl]; rfl
          have hl1 : (0 : Int) < (l1.length : Int) := by omega
          have hm1 : (1 : Int) < (l1.length : Int) := by omega
          obtain ⟨ad, e1, hx1⟩ := Kd.at_int HR.out 0 (by omega) hl1
          obtain ⟨ad2, e2, hx2⟩ := Kd.at_int HR.out 1 (by omega) hm1
          cases e1
          cases e2
          rw [show ((0 : Int)).toNat = 0 from rfl, Addr.add_zero'] at hx1
          rw [show ((1 : Int)).toNat = 1 from rfl] at hx2
          have hl2 := eq_true hl1
          have hl3 : (0 < l1.length) = True := eq_true (by omega)
          have hm2 := eq_true hm1
          have hm3 : (1 < l1.length) = True := eq_true (by omega)
          have HL := Aside0.mk hl
          clear hl hl1 hm1
          have HE : Aside0 (rd l1 0 = l1.getD 0 0) := ⟨rfl⟩
          have HF : Aside0 (rd l1 1 = l1.getD 1 0) := ⟨rfl⟩
          generalize rd l1 0 = e0 at hx1 HE
          generalize rd l1 1 = e1 at hx2 HF
          have hx3 : W1.cell? ⟨ad.block, ad.off + 1, none⟩ = some (Value.int IntKind.i64 e1) := by simpa [Addr.add] using hx2
          by_cases t1 : e0 = e1
          · subst t1
            have HP : Aside0 (ckPlain 13 l1 = e0) := ⟨by unfold ckPlain; rw [← HE.out, ← HF.out]; simp [HL.out]⟩
            have t1a : (e0 == e0) = true := by simp
            have t1c : ¬ (e0 < e0) := by omega
            go_wp2_with fail
            repeat (go_quiet (fail); try go_wp2)
            go_ret
            exact ⟨by rw [HA.out, HP.out]; first | rfl | simp, by repeat (first | exact HBE.out | apply below_alloc | apply pw_below_drewN | apply below_drew1 | exact Nat.le_refl _)⟩
          · have t1a : (e0 == e1) = false := beq_eq_false_iff_ne.mpr t1
            have T1 := Aside0.mk t1
            clear t1
            by_cases t2 : e0 = 0
            · have t2a : (e0 == 0) = true := beq_iff_eq.mpr t2
              have T2 := Aside0.mk t2
              clear t2
              by_cases t4 : e0 < e1
              · have t4a : decide (e0 < e1) = true := decide_eq_true t4
                have HP : Aside0 (ckPlain 13 l1 = e1) := ⟨by unfold ckPlain; rw [← HE.out, ← HF.out, if_neg (by decide), if_neg (by decide), if_neg (by decide), if_neg (by decide), if_neg (by decide), if_neg (by decide), if_neg (by decide), if_pos (by decide), if_pos ⟨HL.out, .inr (.inl T2.out)⟩, if_pos t4]⟩
                go_wp2_with fail
                repeat (go_quiet (fail); try go_wp2)
                go_ret
                exact ⟨by rw [HA.out, HP.out]; first | rfl | simp, by repeat (first | exact HBE.out | apply below_alloc | apply pw_below_drewN | apply below_drew1 | exact Nat.le_refl _)⟩
              · have t4a : decide (e0 < e1) = false := decide_eq_false t4
                have HP : Aside0 (ckPlain 13 l1 = e0) := ⟨by unfold ckPlain; rw [← HE.out, ← HF.out, if_neg (by decide), if_neg (by decide), if_neg (by decide), if_neg (by decide), if_neg (by decide), if_neg (by decide), if_neg (by decide), if_pos (by decide), if_pos ⟨HL.out, .inr (.inl T2.out)⟩, if_neg t4]⟩
                go_wp2_with fail
                repeat (go_quiet (fail); try go_wp2)
                go_ret
                exact ⟨by rw [HA.out, HP.out]; first | rfl | simp, by repeat (first | exact HBE.out | apply below_alloc | apply pw_below_drewN | apply below_drew1 | exact Nat.le_refl _)⟩
            · have t2a : (e0 == 0) = false := beq_eq_false_iff_ne.mpr t2
              have T2 := Aside0.mk t2
              clear t2
              by_cases t3 : e1 = 0
              · have t3a : (e1 == 0) = true := beq_iff_eq.mpr t3
                have T3 := Aside0.mk t3
                clear t3
                by_cases t4 : e0 < e1
                · have t4a : decide (e0 < e1) = true := decide_eq_true t4
                  have HP : Aside0 (ckPlain 13 l1 = e1) := ⟨by unfold ckPlain; rw [← HE.out, ← HF.out, if_neg (by decide), if_neg (by decide), if_neg (by decide), if_neg (by decide), if_neg (by decide), if_neg (by decide), if_neg (by decide), if_pos (by decide), if_pos ⟨HL.out, .inr (.inr T3.out)⟩, if_pos t4]⟩
                  go_wp2_with fail
                  repeat (go_quiet (fail); try go_wp2)
                  go_ret
                  exact ⟨by rw [HA.out, HP.out]; first | rfl | simp, by repeat (first | exact HBE.out | apply below_alloc | apply pw_below_drewN | apply below_drew1 | exact Nat.le_refl _)⟩
                · have t4a : decide (e0 < e1) = false := decide_eq_false t4
                  have HP : Aside0 (ckPlain 13 l1 = e0) := ⟨by unfold ckPlain; rw [← HE.out, ← HF.out, if_neg (by decide), if_neg (by decide), if_neg (by decide), if_neg (by decide), if_neg (by decide), if_neg (by decide), if_neg (by decide), if_pos (by decide), if_pos ⟨HL.out, .inr (.inr T3.out)⟩, if_neg t4]⟩
                  go_wp2_with fail
                  repeat (go_quiet (fail); try go_wp2)
                  go_ret
                  exact ⟨by rw [HA.out, HP.out]; first | rfl | simp, by repeat (first | exact HBE.out | apply below_alloc | apply pw_below_drewN | apply below_drew1 | exact Nat.le_refl _)⟩
              · have t3a : (e1 == 0) = false := beq_eq_false_iff_ne.mpr t3
                have HP : Aside0 (ckPlain 13 l1 = -1) := ⟨by unfold ckPlain; rw [← HE.out, ← HF.out]; simp [T1.out, T2.out, t3]⟩
                clear t3
                go_wp2_with fail
                repeat (go_quiet (fail); try go_wp2)
                go_ret
                exact ⟨by rw [HA.out, HP.out]; first | rfl | simp, by repeat (first | exact HBE.out | apply below_alloc | apply pw_below_drewN | apply below_drew1 | exact Nat.le_refl _)⟩
        · have hl0 : ((l1.length : Int) == 2) = false := by simp; omega
          have hl4 : (l1.length == 2) = false := by simpa using hl
          have HP : Aside0 (ckPlain 13 l1 = -1) := ⟨by unfold ckPlain; simp [hl]⟩
          clear hl
          go_wp2_with fail
          go_quiet (fail)
          go_wp2
          go_ret
          exact ⟨by rw [HA.out, HP.out]; first | rfl | simp, by repeat (first | exact HBE.out | apply below_alloc | apply pw_below_drewN | apply below_drew1 | exact Nat.le_refl _)⟩
      have HP : Aside0 (ckPlain fn l1 = -1) := ⟨by unfold ckPlain; simp [f1, f2, f3, f4, f5, f6, f7, f8, f9, f10, f11, f12, f13]⟩
      have g1 : (fn == 1) = false := beq_eq_false_iff_ne.mpr f1
      have g2 : (fn == 2) = false := beq_eq_false_iff_ne.mpr f2
      have g3 : (fn == 3) = false := beq_eq_false_iff_ne.mpr f3
      have g4 : (fn == 4) = false := beq_eq_false_iff_ne.mpr f4
      have g5 : (fn == 5) = false := beq_eq_false_iff_ne.mpr f5
      have g6 : (fn == 6) = false := beq_eq_false_iff_ne.mpr f6
      have g7 : (fn == 7) = false := beq_eq_false_iff_ne.mpr f7
      have g8 : (fn == 8) = false := beq_eq_false_iff_ne.mpr f8
      have g9 : (fn == 9) = false := beq_eq_false_iff_ne.mpr f9
      have g10 : (fn == 10) = false := beq_eq_false_iff_ne.mpr f10
      have g11 : (fn == 11) = false := beq_eq_false_iff_ne.mpr f11
      have g12 : (fn == 12) = false := beq_eq_false_iff_ne.mpr f12
      have g13 : (fn == 13) = false := beq_eq_false_iff_ne.mpr f13
      clear f1 f2 f3 f4 f5 f6 f7 f8 f9 f10 f11 f12 f13
      go_wp2_with fail
      go_ret
      exact ⟨by rw [HA.out, HP.out]; first | rfl | simp, by repeat (first | exact Below.refl _ _ | apply below_alloc | apply pw_below_drewN | apply below_drew1 | exact Nat.le_refl _)⟩
end Go.Proofs.Ytimngliodeefjaa.Ck
namespace Go.Proofs.YtimngliodeefjaaExt
open Go.RowKit Go.Proofs.YtimngliodeefjaaW.PrintWords Go.Proofs.YtimngliodeefjaaW.PrintLast

def impl_CallKind.f (a0 : Int) (l1 : List Int) : Option Int := if l1.length ≤ 140737488355328 then some (Go.Proofs.Ytimngliodeefjaa.Ck.ckAll a0 l1) else none
theorem impl_CallKind.calls (a0 : Int) (A1 : Option Addr) (c1 : Nat) (l1 : List Int) (r : Int) (w : World) (hr1 : Kd.C (Kd.int .i64) w A1 l1.length l1) (_hc1 : l1.length ≤ c1) (h : impl_CallKind.f a0 l1 = some r) :
    Calls Try.prog 19 #[.int .i64 a0, .slice A1 l1.length c1] w fun e w' => e = .returned (.int .i64 r) ∧ Below w.heap.size w w' := by
  unfold impl_CallKind.f at h
  by_cases hs : l1.length ≤ 140737488355328
  · rw [if_pos hs] at h
    obtain rfl := Option.some.inj h
    exact Go.Proofs.Ytimngliodeefjaa.Ck.ck_calls a0 A1 c1 l1 w hr1 hs
  · rw [if_neg hs] at h; cases h
end Go.Proofs.YtimngliodeefjaaExt
