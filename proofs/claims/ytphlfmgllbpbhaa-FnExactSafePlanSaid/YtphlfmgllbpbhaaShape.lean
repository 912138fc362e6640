/- Proved: what spec.l04Starts answers: okShape, and plain facts about okShape. Conditions: the list of nodes is read. -/
import Derived.Test.YtphlfmgllbpbhaaFails
namespace Go.Proofs.Ytphlfmgllbpbhaa.QFnExactSafePlan
open Go.RowKit Go.Proofs.YtphlfmgllbpbhaaW.PrintWords Go.Proofs.YtphlfmgllbpbhaaW.PrintLast Go.Proofs.YtphlfmgllbpbhaaW.PrintMore
set_option linter.unusedVariables false
set_option linter.unusedSimpArgs false
/-- Where a node's part begins: its kids from the last to the first. -/
def stIn (st ks : List Int) : Nat → Int → Option Int
  | 0, s => some s
  | k + 1, s => if s = 0 ∨ ks.getD k 0 ≠ s - 1 then none else stIn st ks k (st.getD (s - 1).toNat 0)
/-- Where the first nodes' parts begin. -/
def stGo (l : List S49) : Nat → Option (List Int)
  | 0 => some []
  | i + 1 => (stGo l i).bind fun st => (stIn st (l.getD i z49).f5 (l.getD i z49).f5.length (i : Int)).map fun s => st ++ [s]
/-- Do the nodes stand as those of a tree? -/
def okShape (l : List S49) : Bool := match stGo l l.length with
  | some st => decide (0 < l.length) && (st.getD (l.length - 1) 0 == 0)
  | none => false
theorem stGo_none {l : List S49} {i : Nat} (h : stGo l i = none) : ∀ n, stGo l (i + n) = none
  | 0 => h
  | n + 1 => by
    have h1 := stGo_none h n
    show (stGo l (i + n)).bind _ = none
    rw [h1]; rfl
theorem shape_none {l : List S49} {i : Nat} (hi : i ≤ l.length) (h : stGo l i = none) : okShape l = false := by
  have h1 := stGo_none h (l.length - i)
  rw [show i + (l.length - i) = l.length by omega] at h1
  unfold okShape
  rw [h1]
def StOk (st : List Int) : Prop := ∀ j, j < st.length → 0 ≤ st.getD j 0 ∧ st.getD j 0 ≤ (j : Int)
theorem stIn_ok {st ks : List Int} (h : StOk st) : ∀ (k : Nat) (s r : Int), 0 ≤ s → s ≤ (st.length : Int) → stIn st ks k s = some r → 0 ≤ r ∧ r ≤ s ∧ (k : Int) ≤ s
  | 0, s, r, h0, h1, e => by
    simp only [stIn] at e
    injection e with e
    omega
  | k + 1, s, r, h0, h1, e => by
    unfold stIn at e
    by_cases c : s = 0 ∨ ks.getD k 0 ≠ s - 1
    · rw [if_pos c] at e; cases e
    · rw [if_neg c] at e
      have hs : s ≠ 0 := fun h => c (.inl h)
      have h2 := h (s - 1).toNat (by omega)
      have h3 := stIn_ok h k _ r h2.1 (by omega) e
      omega
theorem stGo_ok {l : List S49} : ∀ (i : Nat) (st : List Int), stGo l i = some st → st.length = i ∧ StOk st
  | 0, st, e => by
    simp only [stGo] at e
    injection e with e
    subst e
    exact ⟨rfl, fun j hj => absurd hj (Nat.not_lt_zero _)⟩
  | i + 1, st, e => by
    unfold stGo at e
    obtain ⟨st0, e1, e2⟩ := Option.bind_eq_some_iff.1 e
    obtain ⟨s, e3, e4⟩ := Option.map_eq_some_iff.1 e2
    obtain ⟨g1, g2⟩ := stGo_ok i st0 e1
    have g3 := stIn_ok g2 _ _ s (by omega) (by omega) e3
    subst e4
    refine ⟨by rw [List.length_append, g1]; rfl, fun j hj => ?_⟩
    rw [List.length_append, List.length_singleton] at hj
    by_cases c : j < st0.length
    · rw [show (st0 ++ [s]).getD j 0 = st0.getD j 0 by simp only [List.getD_eq_getElem?_getD, List.getElem?_append_left c]]
      exact g2 j c
    · rw [show (st0 ++ [s]).getD j 0 = s by simp only [List.getD_eq_getElem?_getD, List.getElem?_append_right (Nat.le_of_not_lt c), show j - st0.length = 0 by omega]; rfl]
      omega
theorem stGo_step {l : List S49} {i : Nat} {st : List Int} (h : stGo l i = some st) : stGo l (i + 1) = (stIn st (l.getD i z49).f5 (l.getD i z49).f5.length (i : Int)).map fun s => st ++ [s] := by
  show (stGo l i).bind _ = _
  rw [h]; rfl
theorem take_getD {C st : List Int} {i j : Nat} (h : C.take i = st) (hj : j < i) : C.getD j 0 = st.getD j 0 := by
  rw [← h]
  simp only [List.getD_eq_getElem?_getD, List.getElem?_take_of_lt hj]
theorem take_snoc {C st : List Int} {i : Nat} (h : C.take i = st) (hi : i < C.length) : C.take (i + 1) = st ++ [C.getD i 0] := by
  rw [List.take_succ_eq_append_getElem hi, h]
  simp [List.getD, hi]
theorem set_take {C st : List Int} {i : Nat} (h : C.take i = st) (v : Int) : (C.set i v).take i = st := by rw [List.take_set_of_le (Nat.le_refl _), h]
theorem set_getD (C : List Int) (i : Nat) (v : Int) (hi : i < C.length) : (C.set i v).getD i 0 = v := by simp [List.getD, hi]
end Go.Proofs.Ytphlfmgllbpbhaa.QFnExactSafePlan
