/- Proved: for every number the program's DateParts and the reference's DateParts answer alike. No conditions. -/
import Derived.Test.YtimngliodeefjaaQFnExactDatePartsx1
namespace Go.Proofs.Ytimngliodeefjaa.Pure
open Go.RowKit Go.Proofs.Ytimngliodeefjaa.QFnExactDateParts Go.Proofs.YtimngliodeefjaaW.PrintWords Go.Proofs.YtimngliodeefjaaW.PrintLast

theorem dp_w64 (n : Int) (h1 : -9223372036854775808 ≤ n) (h2 : n ≤ 9223372036854775807) : wrap64 n = n := by
  unfold wrap64; omega

/-- 1 in a leap year. -/
def lp (y : Int) : Int := if y % 4 = 0 ∧ (y % 100 ≠ 0 ∨ y % 400 = 0) then 1 else 0

theorem lp_01 (y : Int) : 0 ≤ lp y ∧ lp y ≤ 1 := by unfold lp; split <;> omega

theorem dp_leap_eq (y : Int) (h : 0 ≤ y) : spec_l01Leap.f y = some (decide (lp y = 1)) ∧ impl_leap.f y = some (decide (lp y = 1)) := by
  unfold spec_l01Leap.f impl_leap.f lp
  rw [Int.tmod_eq_emod_of_nonneg h, Int.tmod_eq_emod_of_nonneg h, Int.tmod_eq_emod_of_nonneg h]
  by_cases h4 : y % 4 = 0 <;> by_cases h100 : y % 100 = 0 <;> by_cases h400 : y % 400 = 0 <;> simp [h4, h100, h400] <;> omega

/-- The days of a month. -/
def md (y m : Int) : Int := if m = 2 then 28 + lp y else if m = 4 ∨ m = 6 ∨ m = 9 ∨ m = 11 then 30 else 31

theorem dp_md_eq (y m : Int) (hy : 0 ≤ y) (h1 : 1 ≤ m) (h2 : m ≤ 12) : spec_l01MonthDays.f y m = some (md y m) ∧ impl_monthDays.f y m = some (md y m) := by
  obtain ⟨e1, e2⟩ := dp_leap_eq y hy
  have hl := lp_01 y
  have hm : m = 1 ∨ m = 2 ∨ m = 3 ∨ m = 4 ∨ m = 5 ∨ m = 6 ∨ m = 7 ∨ m = 8 ∨ m = 9 ∨ m = 10 ∨ m = 11 ∨ m = 12 := by omega
  unfold spec_l01MonthDays.f impl_monthDays.f md
  rw [e1, e2]
  have hb : lp y = 0 ∨ lp y = 1 := by omega
  rcases hb with hb | hb <;> rw [hb] <;> rcases hm with rfl | rfl | rfl | rfl | rfl | rfl | rfl | rfl | rfl | rfl | rfl | rfl <;> refine ⟨?_, ?_⟩ <;> decide +kernel

/-- The days ahead of a year, from year 1 on. -/
def ys (y : Int) : Int := 365 * (y - 1) + (y - 1) / 4 - (y - 1) / 100 + (y - 1) / 400

theorem dp_ys_eq (y : Int) (h1 : 1 ≤ y) (h2 : y ≤ 10001) : spec_l01YearStart.f y = some (ys y) ∧ impl_daysAhead.f y = some (ys y) := by
  have e0 : wrap64 (y - 1) = y - 1 := dp_w64 _ (by omega) (by omega)
  have d4 : wrap64 (Int.tdiv (y - 1) 4) = (y - 1) / 4 := by rw [Int.tdiv_eq_ediv_of_nonneg (by omega)]; exact dp_w64 _ (by omega) (by omega)
  have d100 : wrap64 (Int.tdiv (y - 1) 100) = (y - 1) / 100 := by rw [Int.tdiv_eq_ediv_of_nonneg (by omega)]; exact dp_w64 _ (by omega) (by omega)
  have d400 : wrap64 (Int.tdiv (y - 1) 400) = (y - 1) / 400 := by rw [Int.tdiv_eq_ediv_of_nonneg (by omega)]; exact dp_w64 _ (by omega) (by omega)
  have e : spec_l01YearStart.f y = some (ys y) := by
    unfold spec_l01YearStart.f ys
    rw [e0, d4, d100, d400, dp_w64 (365 * (y - 1)) (by omega) (by omega), dp_w64 (365 * (y - 1) + (y - 1) / 4) (by omega) (by omega),
      dp_w64 (365 * (y - 1) + (y - 1) / 4 - (y - 1) / 100) (by omega) (by omega), dp_w64 (365 * (y - 1) + (y - 1) / 4 - (y - 1) / 100 + (y - 1) / 400) (by omega) (by omega)]
  exact ⟨e, e⟩

theorem ys_succ (y : Int) : ys (y + 1) = ys y + 365 + lp y := by
  unfold ys lp; split <;> omega

/-- The days of the months from m on. -/
def tail (y m : Int) : Int := if m ≤ 1 then 365 + lp y else if m = 2 then 334 + lp y else if m = 3 then 306 else if m = 4 then 275 else if m = 5 then 245 else if m = 6 then 214 else if m = 7 then 184 else if m = 8 then 153 else if m = 9 then 122 else if m = 10 then 92 else if m = 11 then 61 else 31

theorem tail_succ (y m : Int) (h1 : 1 ≤ m) (h2 : m ≤ 11) : tail y (m + 1) = tail y m - md y m := by
  have hm : m = 1 ∨ m = 2 ∨ m = 3 ∨ m = 4 ∨ m = 5 ∨ m = 6 ∨ m = 7 ∨ m = 8 ∨ m = 9 ∨ m = 10 ∨ m = 11 := by omega
  rcases hm with rfl | rfl | rfl | rfl | rfl | rfl | rfl | rfl | rfl | rfl | rfl <;> unfold tail md <;> simp <;> omega

theorem months (y : Int) (hy : 0 ≤ y) (n : Nat) : ∀ (k : Nat) (m r : Int), 12 - m ≤ n → n < k → 1 ≤ m → m ≤ 12 → 0 ≤ r → r < tail y m → r ≤ 100000 →
    ∃ v, spec_DateParts.l1 k r y m = some v ∧ impl_DateParts.l1 k r y m = some v := by
  induction n with
  | zero =>
    intro k m r hn hk h1 h2 hr ht hx
    obtain ⟨k, rfl⟩ : ∃ q, k = q + 1 := ⟨k - 1, by omega⟩
    obtain rfl : m = 12 := by omega
    obtain ⟨e1, e2⟩ := dp_md_eq y 12 hy (by omega) (by omega)
    have hlt : ¬ r ≥ md y 12 := by simp [tail] at ht; simp [md]; omega
    simp only [spec_DateParts.l1, impl_DateParts.l1]
    rw [e1, e2]
    simp only [Option.bind_some]
    rw [if_neg hlt, if_neg hlt]
    exact ⟨_, rfl, rfl⟩
  | succ n ih =>
    intro k m r hn hk h1 h2 hr ht hx
    obtain ⟨k, rfl⟩ : ∃ q, k = q + 1 := ⟨k - 1, by omega⟩
    obtain ⟨e1, e2⟩ := dp_md_eq y m hy h1 h2
    simp only [spec_DateParts.l1, impl_DateParts.l1]
    rw [e1, e2]
    simp only [Option.bind_some]
    by_cases hlt : r ≥ md y m
    · have h12 : m ≤ 11 := by
        by_cases e : m = 12
        · subst e; simp [tail] at ht; simp [md] at hlt; omega
        · omega
      have hs := tail_succ y m h1 h12
      have hp : 0 ≤ md y m := by have := lp_01 y; unfold md; split <;> (try split) <;> omega
      rw [if_pos hlt, if_pos hlt, dp_w64 (r - md y m) (by omega) (by omega), dp_w64 (m + 1) (by omega) (by omega)]
      exact ih k (m + 1) (r - md y m) (by omega) (by omega) (by omega) (by omega) (by omega) (by omega) (by omega)
    · rw [if_neg hlt, if_neg hlt]
      exact ⟨_, rfl, rfl⟩

theorem ys_max : ys 10000 = 3652059 := by decide

theorem ys_mono (a b : Int) (h : a ≤ b) : ys a ≤ ys b := by unfold ys; omega

theorem years (r : Int) (hr : r ≤ 3652058) (n : Nat) : ∀ (k : Nat) (y : Int), 9999 - y ≤ n → n + 20 < k → 1 ≤ y → y ≤ 9999 → ys y ≤ r →
    ∃ v, spec_DateParts.l0 k r y = some v ∧ impl_DateParts.l0 k r y = some v := by
  induction n with
  | zero =>
    intro k y hn hk h1 h2 hy
    obtain ⟨k, rfl⟩ : ∃ q, k = q + 1 := ⟨k - 1, by omega⟩
    obtain rfl : y = 9999 := by omega
    have hz := ys_max
    obtain ⟨e1, e2⟩ := dp_ys_eq (9999 + 1) (by omega) (by omega)
    obtain ⟨f1, f2⟩ := dp_ys_eq 9999 (by omega) (by omega)
    have hs := ys_succ 9999
    have hlt : ¬ ys (9999 + 1) ≤ r := by show ¬ ys 10000 ≤ r; omega
    have hlt' : r < ys (9999 + 1) := by omega
    have hl := lp_01 9999
    simp only [spec_DateParts.l0, impl_DateParts.l0]
    rw [dp_w64 (9999 + 1) (by omega) (by omega), e1, e2, f1, f2]
    simp only [Option.bind_some]
    rw [if_neg hlt, if_neg hlt]
    have hb : -9223372036854775808 ≤ r - ys 9999 ∧ r - ys 9999 ≤ 9223372036854775807 := by omega
    rw [dp_w64 _ hb.1 hb.2]
    exact months 9999 (by omega) 12 k 1 (r - ys 9999) (by omega) (by omega) (by omega) (by omega) (by omega) (by unfold tail; simp; omega) (by omega)
  | succ n ih =>
    intro k y hn hk h1 h2 hy
    obtain ⟨k, rfl⟩ : ∃ q, k = q + 1 := ⟨k - 1, by omega⟩
    obtain ⟨e1, e2⟩ := dp_ys_eq (y + 1) (by omega) (by omega)
    obtain ⟨f1, f2⟩ := dp_ys_eq y (by omega) (by omega)
    have hs := ys_succ y
    have hl := lp_01 y
    simp only [spec_DateParts.l0, impl_DateParts.l0]
    rw [dp_w64 (y + 1) (by omega) (by omega), e1, e2, f1, f2]
    simp only [Option.bind_some]
    by_cases hlt : ys (y + 1) ≤ r
    · have h9 : y ≤ 9998 := by
        by_cases e : y = 9999
        · subst e
          have hz := ys_max
          have : ys (9999 + 1) = ys 10000 := rfl
          omega
        · omega
      rw [if_pos hlt, if_pos hlt]
      exact ih k (y + 1) (by omega) (by omega) (by omega) (by omega) hlt
    · rw [if_neg hlt, if_neg hlt]
      have hb : -9223372036854775808 ≤ r - ys y ∧ r - ys y ≤ 9223372036854775807 := by omega
      rw [dp_w64 _ hb.1 hb.2]
      exact months y (by omega) 12 k 1 (r - ys y) (by omega) (by omega) (by omega) (by omega) (by omega) (by unfold tail; simp; omega) (by omega)

theorem dp_both (a : Int) : ∃ v, spec_DateParts.f 10100 a = some v ∧ impl_DateParts.f 10100 a = some v := by
  unfold spec_DateParts.f impl_DateParts.f
  by_cases h1 : a < -719162
  · rw [if_pos h1, if_pos h1]; exact ⟨_, rfl, rfl⟩
  rw [if_neg h1, if_neg h1]
  by_cases h2 : a > 2932896
  · rw [decide_eq_true h2]; exact ⟨_, rfl, rfl⟩
  rw [decide_eq_false h2]
  rw [show (10100 : Nat) = 10099 + 1 from rfl]
  simp only [spec_DateParts.j0, impl_DateParts.j0, Bool.false_eq_true, if_false]
  have e : wrap64 (a + 719162) = a + 719162 := dp_w64 _ (by omega) (by omega)
  have q : wrap64 (Int.tdiv (a + 719162) 366) = (a + 719162) / 366 := by rw [Int.tdiv_eq_ediv_of_nonneg (by omega)]; exact dp_w64 _ (by omega) (by omega)
  rw [e, q, dp_w64 (1 + (a + 719162) / 366) (by omega) (by omega), dp_w64 ((a + 719162) / 366 + 1) (by omega) (by omega), show 1 + (a + 719162) / 366 = (a + 719162) / 366 + 1 by omega]
  exact years (a + 719162) (by omega) 9999 10099 _ (by omega) (by omega) (by omega) (by omega) (by unfold ys; omega)

theorem FnExactDateParts : laws_FnExactDateParts.Pure := by
  intro a _
  obtain ⟨v, e1, e2⟩ := dp_both a
  refine ⟨10100, ?_⟩
  unfold laws_FnExactDateParts.f
  rw [e1, e2]
  simp

end Go.Proofs.Ytimngliodeefjaa.Pure
