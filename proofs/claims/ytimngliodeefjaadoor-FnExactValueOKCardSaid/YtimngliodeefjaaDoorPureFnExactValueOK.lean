/- Proved: for every value whose text fits into memory the program's ValueOK and the reference's ValueOK answer alike. No other conditions. -/
import Derived.Test.YtimngliodeefjaaDoorQFnExactValueOKx2
import Derived.Test.YtimngliodeefjaaDoorChars
namespace Go.Proofs.YtimngliodeefjaaDoor.Pure
open Go.RowKit Go.Lib Go.Proofs.YtimngliodeefjaaDoor.QFnExactValueOK Go.Proofs.YtimngliodeefjaaDoorW.PrintWords Go.Proofs.YtimngliodeefjaaDoorW.PrintLast Go.Proofs.YtimngliodeefjaaDoorExt

theorem dup {α : Type} {e : Option α} (h : e.isSome = true) : ∃ v, e = some v ∧ e = some v := by
  cases e with
  | none => cases h
  | some v => exact ⟨v, rfl, rfl⟩

theorem value_both (a b : Int) (s : ByteArray) (hs : s.size ≤ 1048576) : ∃ k v, spec_ValueOK.f k a b s = some v ∧ impl_ValueOK.f a b s = some v := by
  obtain ⟨k, hk⟩ := chars_told s hs
  refine ⟨k, ?_⟩
  unfold spec_ValueOK.f impl_ValueOK.f
  by_cases h0 : a = 0
  · rw [if_pos h0, if_pos h0]
    by_cases hb : b = 0
    · rw [if_pos hb]; exact ⟨_, rfl, rfl⟩
    · rw [if_neg hb]; exact ⟨_, rfl, rfl⟩
  rw [if_neg h0, if_neg h0]
  by_cases h1 : a = 1
  · rw [if_pos h1, if_pos h1]; exact ⟨_, rfl, rfl⟩
  rw [if_neg h1, if_neg h1]
  by_cases h2 : a = 2
  · rw [if_pos h2, if_pos h2]
    by_cases hb : s.toList = []
    · by_cases hc : b ≥ -999999999999999999
      · simp only [if_pos hb, if_pos hc]; exact ⟨_, rfl, rfl⟩
      · simp only [if_pos hb, if_neg hc]; exact ⟨_, rfl, rfl⟩
    · simp only [if_neg hb]; exact ⟨_, rfl, rfl⟩
  rw [if_neg h2, if_neg h2]
  by_cases h3 : a = 3
  · rw [if_pos h3, if_pos h3]
    by_cases hb : b = 0
    · have e1 : utf8_ValidString.f s = some (validD s.data.toList) := by unfold utf8_ValidString.f; rw [if_pos (by omega)]
      have e2 : utf8_RuneCountInString.f s = some (runeCount s : Int) := by unfold utf8_RuneCountInString.f; rw [if_pos (by omega)]
      rw [if_pos hb, if_pos hb, hk, e1, e2]
      simp only [Option.bind_some]
      have hr := runeCount_runes s
      by_cases hz : (s.size : Int) > 1020
      · rw [if_pos hz]
        have h4 := runes_bytes _ s.data.toList (Nat.le_refl _)
        have hl : s.data.toList.length = s.size := by simp
        cases hv : validD s.data.toList
        · exact ⟨_, rfl, rfl⟩
        · refine ⟨false, rfl, ?_⟩
          rw [if_pos rfl, decide_eq_false (by omega)]
      · rw [if_neg hz]
        cases hv : validD s.data.toList
        · exact ⟨_, rfl, rfl⟩
        · refine ⟨_, rfl, ?_⟩
          simp only [if_true, hr]
    · rw [if_neg hb, if_neg hb]; exact ⟨_, rfl, rfl⟩
  rw [if_neg h3, if_neg h3]
  refine dup ?_
  by_cases h4 : a = 4
  · by_cases hb : s.toList = [] <;> by_cases hc : b = 0 <;> simp [h4, hb, hc]
  · by_cases h5 : a = 5 <;> by_cases hb : s.toList = [] <;> by_cases hc : b ≥ -719162 <;> simp [h4, h5, hb, hc]

theorem FnExactValueOK (a b : Int) (s : ByteArray) (hs : s.size ≤ 140737488351232) : ∃ k, laws_FnExactValueOK.f k a b s = some true := by
  unfold laws_FnExactValueOK.f laws_szValue.f laws_toValue.f
  have e : wrap64 (1048576 - (s.size : Int)) = 1048576 - (s.size : Int) := w64 _ (by omega) (by omega)
  rw [e]
  by_cases h : 1048576 - (s.size : Int) < 0
  · refine ⟨0, ?_⟩
    rw [if_pos h]
    rfl
  · obtain ⟨k, v, e1, e2⟩ := value_both a b s (by omega)
    refine ⟨k, ?_⟩
    rw [if_neg h]
    simp only [Option.bind_some]
    rw [if_neg h, e1, e2]
    simp

end Go.Proofs.YtimngliodeefjaaDoor.Pure
