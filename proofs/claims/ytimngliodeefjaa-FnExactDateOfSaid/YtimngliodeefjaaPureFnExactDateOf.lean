/- Proved: for all three numbers the program's DateOf and the reference's DateOf answer alike. No conditions. -/
import Derived.Test.YtimngliodeefjaaPFnExactDateOfx1
namespace Go.Proofs.Ytimngliodeefjaa.Pure
open Go.RowKit Go.Proofs.Ytimngliodeefjaa.PFnExactDateOf Go.Proofs.YtimngliodeefjaaW.PrintWords Go.Proofs.YtimngliodeefjaaW.PrintLast

theorem w64 (n : Int) (h1 : -9223372036854775808 ≤ n) (h2 : n ≤ 9223372036854775807) : wrap64 n = n := by
  unfold wrap64; omega

theorem leap_eq (y : Int) (h : 0 ≤ y) : ∃ b, spec_l01Leap.f y = some b ∧ impl_leap.f y = some b := by
  unfold spec_l01Leap.f impl_leap.f
  rw [Int.tmod_eq_emod_of_nonneg h, Int.tmod_eq_emod_of_nonneg h, Int.tmod_eq_emod_of_nonneg h]
  by_cases h4 : y % 4 = 0
  · by_cases h100 : y % 100 = 0
    · simp only [if_pos h4, if_pos h100]; exact ⟨_, rfl, rfl⟩
    · simp only [if_pos h4, if_neg h100]; exact ⟨_, rfl, rfl⟩
  · rw [if_neg h4, if_neg h4]
    refine ⟨false, rfl, ?_⟩
    have : y % 400 ≠ 0 := by omega
    simp [this]

theorem md_eq (y m : Int) (hy : 0 ≤ y) (h1 : 1 ≤ m) (h2 : m ≤ 12) :
    ∃ d, spec_l01MonthDays.f y m = some d ∧ impl_monthDays.f y m = some d ∧ 28 ≤ d ∧ d ≤ 31 := by
  obtain ⟨b, e1, e2⟩ := leap_eq y hy
  have hm : m = 1 ∨ m = 2 ∨ m = 3 ∨ m = 4 ∨ m = 5 ∨ m = 6 ∨ m = 7 ∨ m = 8 ∨ m = 9 ∨ m = 10 ∨ m = 11 ∨ m = 12 := by omega
  unfold spec_l01MonthDays.f impl_monthDays.f
  rw [e1, e2]
  rcases hm with rfl | rfl | rfl | rfl | rfl | rfl | rfl | rfl | rfl | rfl | rfl | rfl <;> cases b <;>
    first
      | (refine ⟨31, ?_, ?_, ?_, ?_⟩ <;> decide +kernel)
      | (refine ⟨30, ?_, ?_, ?_, ?_⟩ <;> decide +kernel)
      | (refine ⟨29, ?_, ?_, ?_, ?_⟩ <;> decide +kernel)
      | (refine ⟨28, ?_, ?_, ?_, ?_⟩ <;> decide +kernel)

theorem ys_eq (y : Int) (h1 : 1 ≤ y) (h2 : y ≤ 10000) :
    ∃ v, spec_l01YearStart.f y = some v ∧ impl_daysAhead.f y = some v ∧ 0 ≤ v ∧ v ≤ 4000000 := by
  have e0 : wrap64 (y - 1) = y - 1 := w64 _ (by omega) (by omega)
  have d4 : wrap64 (Int.tdiv (y - 1) 4) = (y - 1) / 4 := by rw [Int.tdiv_eq_ediv_of_nonneg (by omega)]; exact w64 _ (by omega) (by omega)
  have d100 : wrap64 (Int.tdiv (y - 1) 100) = (y - 1) / 100 := by rw [Int.tdiv_eq_ediv_of_nonneg (by omega)]; exact w64 _ (by omega) (by omega)
  have d400 : wrap64 (Int.tdiv (y - 1) 400) = (y - 1) / 400 := by rw [Int.tdiv_eq_ediv_of_nonneg (by omega)]; exact w64 _ (by omega) (by omega)
  have e : spec_l01YearStart.f y = some (365 * (y - 1) + (y - 1) / 4 - (y - 1) / 100 + (y - 1) / 400) := by
    unfold spec_l01YearStart.f
    rw [e0, d4, d100, d400, w64 (365 * (y - 1)) (by omega) (by omega), w64 (365 * (y - 1) + (y - 1) / 4) (by omega) (by omega),
      w64 (365 * (y - 1) + (y - 1) / 4 - (y - 1) / 100) (by omega) (by omega), w64 (365 * (y - 1) + (y - 1) / 4 - (y - 1) / 100 + (y - 1) / 400) (by omega) (by omega)]
  exact ⟨_, e, e, by omega, by omega⟩

theorem loops (y m : Int) (hy : 0 ≤ y) (hm : m ≤ 12) (n : Nat) : ∀ (k : Nat) (i x : Int), m - i ≤ n → n < k → 1 ≤ i → -1000000000 ≤ x → x ≤ 1000000000 + 31 * i → i ≤ 12 →
    ∃ r, spec_DateOf.l0 k y m (x - 719162) i = some r ∧ impl_DateOf.l0 k y m x i = some r := by
  induction n with
  | zero =>
    intro k i x hn hk hi hx1 hx2 hi2
    obtain ⟨k, rfl⟩ : ∃ q, k = q + 1 := ⟨k - 1, by omega⟩
    simp only [spec_DateOf.l0, impl_DateOf.l0]
    rw [if_neg (by omega), if_neg (by omega), w64 (x + -719162) (by omega) (by omega)]
    exact ⟨_, rfl, rfl⟩
  | succ n ih =>
    intro k i x hn hk hi hx1 hx2 hi2
    obtain ⟨k, rfl⟩ : ∃ q, k = q + 1 := ⟨k - 1, by omega⟩
    by_cases hlt : i < m
    · obtain ⟨d, e1, e2, d1, d2⟩ := md_eq y i hy hi (by omega)
      simp only [spec_DateOf.l0, impl_DateOf.l0]
      rw [if_pos hlt, if_pos hlt, e1, e2]
      simp only [Option.bind_some]
      rw [w64 (x - 719162 + d) (by omega) (by omega), w64 (x + d) (by omega) (by omega), w64 (i + 1) (by omega) (by omega)]
      rw [show x - 719162 + d = x + d - 719162 by omega]
      exact ih k (i + 1) (x + d) (by omega) (by omega) (by omega) (by omega) (by omega) (by omega)
    · simp only [spec_DateOf.l0, impl_DateOf.l0]
      rw [if_neg hlt, if_neg hlt, w64 (x + -719162) (by omega) (by omega)]
      exact ⟨_, rfl, rfl⟩

theorem both (y m d : Int) : ∃ r, spec_DateOf.f 20 y m d = some r ∧ impl_DateOf.f 20 y m d = some r := by
  unfold spec_DateOf.f impl_DateOf.f
  by_cases h1 : y < 1
  · rw [if_pos h1, if_pos h1]; exact ⟨_, rfl, rfl⟩
  by_cases h2 : y > 9999
  · rw [if_neg h1, if_neg h1, if_pos h2, if_pos h2]; exact ⟨_, rfl, rfl⟩
  by_cases h3 : m < 1
  · rw [if_neg h1, if_neg h1, if_neg h2, if_neg h2, if_pos h3, if_pos h3]; exact ⟨_, rfl, rfl⟩
  by_cases h4 : m > 12
  · rw [if_neg h1, if_neg h1, if_neg h2, if_neg h2, if_neg h3, if_neg h3, if_pos h4, if_pos h4]; exact ⟨_, rfl, rfl⟩
  by_cases h5 : d < 1
  · rw [if_neg h1, if_neg h1, if_neg h2, if_neg h2, if_neg h3, if_neg h3, if_neg h4, if_neg h4, if_pos h5, if_pos h5]; exact ⟨_, rfl, rfl⟩
  rw [if_neg h1, if_neg h1, if_neg h2, if_neg h2, if_neg h3, if_neg h3, if_neg h4, if_neg h4, if_neg h5, if_neg h5]
  obtain ⟨t, e1, e2, t1, t2⟩ := md_eq y m (by omega) (by omega) (by omega)
  rw [e1, e2]
  simp only [Option.bind_some]
  by_cases h6 : d > t
  · rw [decide_eq_true h6]; exact ⟨_, rfl, rfl⟩
  · rw [decide_eq_false h6]
    obtain ⟨v, f1, f2, v1, v2⟩ := ys_eq y (by omega) (by omega)
    simp only [spec_DateOf.j0, impl_DateOf.j0]
    rw [f1, f2]
    simp only [Option.bind_some, Bool.false_eq_true, if_false]
    rw [w64 (-719162 + v) (by omega) (by omega), w64 (-719162 + v + d) (by omega) (by omega), w64 (-719162 + v + d - 1) (by omega) (by omega),
      w64 (v + d) (by omega) (by omega), w64 (v + d - 1) (by omega) (by omega)]
    rw [show -719162 + v + d - 1 = (v + d - 1) - 719162 by omega]
    exact loops y m (by omega) (by omega) 12 19 1 (v + d - 1) (by omega) (by omega) (by omega) (by omega) (by omega) (by omega)

theorem FnExactDateOf : laws_FnExactDateOf.Pure := by
  intro y m d _ _ _
  obtain ⟨r, e1, e2⟩ := both y m d
  refine ⟨20, ?_⟩
  unfold laws_FnExactDateOf.f
  rw [e1, e2]
  simp

end Go.Proofs.Ytimngliodeefjaa.Pure
