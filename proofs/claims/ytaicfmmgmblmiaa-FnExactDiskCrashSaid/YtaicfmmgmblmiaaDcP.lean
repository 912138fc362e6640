/- Proved: what impl.zNought and spec.l13Blank answer. Conditions: the row is short. -/
import Derived.Test.YtaicfmmgmblmiaaQFnExactDiskCrashx2
import Derived.Test.YtaicfmmgmblmiaaQFnExactDiskCrashx4
namespace Go.Proofs.Ytaicfmmgmblmiaa.QFnExactDiskCrash
open Go.RowKit Go.Proofs.YtaicfmmgmblmiaaW.PrintWords Go.Proofs.YtaicfmmgmblmiaaW.PrintLast Go.Proofs.YtaicfmmgmblmiaaW.PrintMore
set_option linter.unusedVariables false
set_option linter.unusedSimpArgs false
def nought (b : List Int) : Bool := b.all (fun x => x == 0)
theorem nought_at (b : List Int) (i : Nat) (h : i < b.length) : (b.drop i).all (fun x => x == 0) = (rd b (i : Int) == 0 && (b.drop (i + 1)).all (fun x => x == 0)) := by
  rw [List.drop_eq_getElem_cons h, List.all_cons]
  simp [rd, List.getD, List.getElem?_eq_getElem h]
theorem zNought_loop (b : List Int) (hb : b.length ≤ 1000000000) : ∀ (n i : Nat), i + n = b.length → impl_zNought.l0 (n + 1) b (b.length : Int) (i : Int) = some ((b.drop i).all (fun x => x == 0)) := by
  intro n
  induction n with
  | zero =>
    intro i hi
    simp only [impl_zNought.l0]
    rw [if_neg (by omega), List.drop_of_length_le (by omega)]
    rfl
  | succ n ih =>
    intro i hi
    obtain ⟨q, hq⟩ : ∃ q, q = n + 1 := ⟨_, rfl⟩
    rw [← hq] at ih ⊢
    have e1 : wrap64 ((i : Int) + 1) = ((i + 1 : Nat) : Int) := by unfold wrap64; omega
    simp only [impl_zNought.l0]
    rw [if_pos (by omega), if_pos (by omega), if_pos (by omega), nought_at b i (by omega), e1, ih (i + 1) (by omega)]
    by_cases h : rd b (i : Int) = 0
    · rw [if_pos h, h]; rfl
    · rw [if_neg h, show (rd b (i : Int) == 0) = false from by simpa using h]; rfl
theorem zNought_eq (b : List Int) (hb : b.length ≤ 1000000000) : impl_zNought.f (b.length + 1) b = some (nought b) := zNought_loop b hb b.length 0 (by omega)
theorem blank_loop (b : List Int) (hb : b.length ≤ 1000000000) : ∀ (n i : Nat), i + n = b.length → spec_l13Blank.l0 (n + 1) b (b.length : Int) (i : Int) = some ((b.drop i).all (fun x => x == 0)) := by
  intro n
  induction n with
  | zero =>
    intro i hi
    simp only [spec_l13Blank.l0]
    rw [if_neg (by omega), List.drop_of_length_le (by omega)]
    rfl
  | succ n ih =>
    intro i hi
    obtain ⟨q, hq⟩ : ∃ q, q = n + 1 := ⟨_, rfl⟩
    rw [← hq] at ih ⊢
    have e1 : wrap64 ((i : Int) + 1) = ((i + 1 : Nat) : Int) := by unfold wrap64; omega
    simp only [spec_l13Blank.l0]
    rw [if_pos (by omega), if_pos (by omega), if_pos (by omega), nought_at b i (by omega), e1, ih (i + 1) (by omega)]
    by_cases h : rd b (i : Int) = 0
    · rw [if_pos h, h]; rfl
    · rw [if_neg h, show (rd b (i : Int) == 0) = false from by simpa using h]; rfl
theorem blank_eq (b : List Int) (hb : b.length ≤ 1000000000) : spec_l13Blank.f (b.length + 1) b = some (nought b) := blank_loop b hb b.length 0 (by omega)
end Go.Proofs.Ytaicfmmgmblmiaa.QFnExactDiskCrash
