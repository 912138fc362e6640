/- Proved: for all three numbers the program's OpKind and the reference's OpKind answer alike. No conditions. -/
import Derived.Test.YtimngliodeefjaaPFnExactOpKindx5
namespace Go.Proofs.Ytimngliodeefjaa.Pure
open Go.RowKit Go.Proofs.Ytimngliodeefjaa.PFnExactOpKind Go.Proofs.YtimngliodeefjaaW.PrintWords Go.Proofs.YtimngliodeefjaaW.PrintLast

theorem opkind_fin : ∀ o : Fin 19, ∀ x : Fin 6, ∀ y : Fin 6, laws_FnExactOpKind.f 40 (o.val : Int) (x.val : Int) (y.val : Int) = some true := by decide +kernel

theorem opkind_spec_kind (a : Int) : spec_l01IsKind.f a = some (decide (0 ≤ a ∧ a ≤ 5)) := by
  unfold spec_l01IsKind.f
  by_cases h1 : a ≥ 0 <;> simp [h1]

theorem opkind_impl_kind (a : Int) : impl_isKind.f a = some (decide (0 ≤ a ∧ a ≤ 5)) := by
  unfold impl_isKind.f
  by_cases h1 : a ≥ 0 <;> simp [h1]

theorem opkind_unary (a : Int) : impl_isUnary.f a = some (decide (16 ≤ a ∧ a ≤ 18)) := by
  unfold impl_isUnary.f
  by_cases h1 : a ≥ 16 <;> simp [h1]

theorem opkind_binary (a : Int) : impl_isBinary.f a = some (decide (1 ≤ a ∧ a ≤ 15)) := by
  unfold impl_isBinary.f
  by_cases h1 : a ≥ 1 <;> simp [h1]

theorem opkind_spec_out (o a b : Int) (h : ¬ (1 ≤ o ∧ o ≤ 18 ∧ 0 ≤ a ∧ a ≤ 5)) : spec_OpKind.f 40 o a b = some (-1) := by
  unfold spec_OpKind.f
  rw [opkind_spec_kind]
  by_cases h1 : o < 1
  · rw [if_pos h1]; rfl
  · rw [if_neg h1]
    by_cases h2 : o > 18
    · rw [if_pos h2]; rfl
    · rw [if_neg h2, decide_eq_false (by omega)]; rfl

theorem opkind_impl_out (o a b : Int) (h : ¬ (1 ≤ o ∧ o ≤ 18 ∧ 0 ≤ a ∧ a ≤ 5)) : impl_OpKind.f 40 o a b = some (-1) := by
  unfold impl_OpKind.f
  rw [opkind_unary, opkind_binary, opkind_impl_kind]
  by_cases h1 : 16 ≤ o ∧ o ≤ 18
  · rw [decide_eq_true h1]
    by_cases h3 : 0 ≤ a ∧ a ≤ 5
    · exact absurd ⟨by omega, h1.2, h3.1, h3.2⟩ h
    · rw [decide_eq_false h3]; rfl
  · rw [decide_eq_false h1]
    by_cases h2 : 1 ≤ o ∧ o ≤ 15
    · rw [decide_eq_true h2, decide_eq_false (p := 0 ≤ a ∧ a ≤ 5) (by omega)]; rfl
    · rw [decide_eq_false h2]; rfl

theorem opkind_spec_b (o a b : Int) (h0 : 1 ≤ o ∧ 0 ≤ a ∧ a ≤ 5) (h : o ≤ 15) (hb : ¬ (0 ≤ b ∧ b ≤ 5)) : spec_OpKind.f 40 o a b = some (-1) := by
  unfold spec_OpKind.f
  rw [if_neg (by omega), if_neg (by omega), opkind_spec_kind, decide_eq_true h0.2]
  simp only [Option.bind_some, spec_OpKind.j0, Bool.not_true, Bool.false_eq_true, if_false]
  rw [if_neg (by omega), opkind_spec_kind, decide_eq_false hb]
  rfl

theorem opkind_impl_b (o a b : Int) (h0 : 1 ≤ o ∧ 0 ≤ a ∧ a ≤ 5) (h : o ≤ 15) (hb : ¬ (0 ≤ b ∧ b ≤ 5)) : impl_OpKind.f 40 o a b = some (-1) := by
  unfold impl_OpKind.f
  rw [opkind_unary, opkind_binary, opkind_impl_kind, opkind_impl_kind, decide_eq_true h0.2, decide_eq_false hb,
    decide_eq_false (p := 16 ≤ o ∧ o ≤ 18) (by omega), decide_eq_true (p := 1 ≤ o ∧ o ≤ 15) (by omega)]
  rfl

theorem opkind_un (o a b : Int) (h1 : 16 ≤ o) (h2 : o ≤ 18) (h3 : 0 ≤ a) (h4 : a ≤ 5) : laws_FnExactOpKind.f 40 o a b = laws_FnExactOpKind.f 40 o a 0 := by
  have ho : o = 16 ∨ o = 17 ∨ o = 18 := by omega
  have ha : a = 0 ∨ a = 1 ∨ a = 2 ∨ a = 3 ∨ a = 4 ∨ a = 5 := by omega
  have e1 : spec_OpKind.f 40 o a b = spec_OpKind.f 40 o a 0 := by
    rcases ho with rfl | rfl | rfl <;> rcases ha with rfl | rfl | rfl | rfl | rfl | rfl <;> rfl
  have e2 : impl_OpKind.f 40 o a b = impl_OpKind.f 40 o a 0 := by
    rcases ho with rfl | rfl | rfl <;> rcases ha with rfl | rfl | rfl | rfl | rfl | rfl <;> rfl
  unfold laws_FnExactOpKind.f
  rw [e1, e2]

theorem opkind_in (o a b : Int) (h1 : 0 ≤ o) (h2 : o ≤ 18) (h3 : 0 ≤ a) (h4 : a ≤ 5) (h5 : 0 ≤ b) (h6 : b ≤ 5) : laws_FnExactOpKind.f 40 o a b = some true := by
  have f := opkind_fin ⟨o.toNat, by omega⟩ ⟨a.toNat, by omega⟩ ⟨b.toNat, by omega⟩
  simp only [Int.toNat_of_nonneg h1, Int.toNat_of_nonneg h3, Int.toNat_of_nonneg h5] at f
  exact f

theorem FnExactOpKind : laws_FnExactOpKind.Pure := by
  intro o a b _ _ _
  refine ⟨40, ?_⟩
  by_cases h : 1 ≤ o ∧ o ≤ 18 ∧ 0 ≤ a ∧ a ≤ 5
  · obtain ⟨h1, h2, h3, h4⟩ := h
    by_cases hu : 16 ≤ o
    · rw [opkind_un o a b hu h2 h3 h4]
      exact opkind_in o a 0 (by omega) h2 h3 h4 (by omega) (by omega)
    · by_cases hb : 0 ≤ b ∧ b ≤ 5
      · exact opkind_in o a b (by omega) h2 h3 h4 hb.1 hb.2
      · unfold laws_FnExactOpKind.f
        rw [opkind_spec_b o a b ⟨h1, h3, h4⟩ (by omega) hb, opkind_impl_b o a b ⟨h1, h3, h4⟩ (by omega) hb]
        rfl
  · unfold laws_FnExactOpKind.f
    rw [opkind_spec_out o a b h, opkind_impl_out o a b h]
    rfl

end Go.Proofs.Ytimngliodeefjaa.Pure
