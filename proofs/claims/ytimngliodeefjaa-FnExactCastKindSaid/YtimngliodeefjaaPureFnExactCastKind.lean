/- Proved: for all two numbers the program's CastKind and the reference's CastKind answer alike. No conditions. -/
import Derived.Test.YtimngliodeefjaaPFnExactCastKindx1
namespace Go.Proofs.Ytimngliodeefjaa.Pure
open Go.RowKit Go.Proofs.Ytimngliodeefjaa.PFnExactCastKind Go.Proofs.YtimngliodeefjaaW.PrintWords Go.Proofs.YtimngliodeefjaaW.PrintLast

theorem castkind_fin : ∀ x : Fin 6, ∀ y : Fin 6, laws_FnExactCastKind.f 6 (x.val : Int) (y.val : Int) = some true := by decide +kernel

theorem castkind_spec_kind (a : Int) : spec_l01IsKind.f a = some (decide (0 ≤ a ∧ a ≤ 5)) := by
  unfold spec_l01IsKind.f
  by_cases h1 : a ≥ 0 <;> simp [h1]

theorem castkind_impl_kind (a : Int) : impl_isKind.f a = some (decide (0 ≤ a ∧ a ≤ 5)) := by
  unfold impl_isKind.f
  by_cases h1 : a ≥ 0 <;> simp [h1]

theorem castkind_spec_out (a b : Int) (h : ¬ (0 ≤ a ∧ a ≤ 5 ∧ 0 ≤ b ∧ b ≤ 5)) : spec_CastKind.f 6 a b = some false := by
  unfold spec_CastKind.f
  rw [castkind_spec_kind, castkind_spec_kind]
  by_cases h1 : 0 ≤ a ∧ a ≤ 5
  · have h2 : ¬ (0 ≤ b ∧ b ≤ 5) := by omega
    rw [decide_eq_true h1, decide_eq_false h2]; rfl
  · rw [decide_eq_false h1]; rfl

theorem castkind_impl_out (a b : Int) (h : ¬ (0 ≤ a ∧ a ≤ 5 ∧ 0 ≤ b ∧ b ≤ 5)) : impl_CastKind.f 6 a b = some false := by
  unfold impl_CastKind.f
  rw [castkind_impl_kind, castkind_impl_kind]
  by_cases h1 : 0 ≤ a ∧ a ≤ 5
  · have h2 : ¬ (0 ≤ b ∧ b ≤ 5) := by omega
    rw [decide_eq_true h1, decide_eq_false h2]; rfl
  · rw [decide_eq_false h1]; rfl

theorem FnExactCastKind : laws_FnExactCastKind.Pure := by
  intro a b _ _
  refine ⟨6, ?_⟩
  by_cases h : 0 ≤ a ∧ a ≤ 5 ∧ 0 ≤ b ∧ b ≤ 5
  · obtain ⟨h1, h2, h3, h4⟩ := h
    have f := castkind_fin ⟨a.toNat, by omega⟩ ⟨b.toNat, by omega⟩
    simp only [Int.toNat_of_nonneg h1, Int.toNat_of_nonneg h3] at f
    exact f
  · unfold laws_FnExactCastKind.f
    rw [castkind_spec_out a b h, castkind_impl_out a b h]
    rfl

end Go.Proofs.Ytimngliodeefjaa.Pure
