/- Proved: the program's test of a token and the reference's test are one, for every kind and every row of bytes. No program in sight. -/
import Derived.Test.YtackifpnpkbddaaGreatDoorUxW
set_option linter.unusedVariables false
set_option linter.unusedSimpArgs false
namespace Go.Proofs.YtackifpnpkbddaaGreatDoorScan
open Go Go.RowKit Go.Lib
theorem cnt_full {p : UInt8 → Bool} : ∀ l : B, cnt p l = l.length ↔ l.all p = true
 | [] => by simp [cnt]
 | c :: r => by
  have ih := cnt_full (p := p) r
  have hle := cnt_le p r
  unfold cnt
  by_cases h : p c = true
  ·rw [if_pos h, List.all_cons, h, Bool.true_and, ← ih, List.length_cons]; omega
  ·rw [if_neg h, List.all_cons]; simp [h]
theorem lower_same (c : UInt8) : lowerB c = c ↔ isGreat c = false := by
 unfold lowerB isUpperB isGreat
 by_cases h : 65 ≤ c.toNat ∧ c.toNat ≤ 90
 ·rw [if_pos (by simp only [Bool.and_eq_true, decide_eq_true_eq]; exact ⟨by rw [UInt8.le_iff_toNat_le]; exact h.1, by rw [UInt8.le_iff_toNat_le]; exact h.2⟩), decide_eq_true h]
  constructor
  ·intro h2
   have h3 := congrArg UInt8.toNat h2
   rw [UInt8.toNat_add] at h3
   simp at h3
   omega
  ·intro h2; cases h2
 ·rw [if_neg (by
   simp only [Bool.and_eq_true, decide_eq_true_eq, not_and]
   intro h1 h2
   exact h ⟨by simpa [UInt8.le_iff_toNat_le] using h1, by simpa [UInt8.le_iff_toNat_le] using h2⟩), decide_eq_false h]
  simp
theorem lower_all : ∀ l : B, toLowerA l = l ↔ (l.all fun c => !isGreat c) = true
 | [] => by simp [toLowerA]
 | c :: r => by
  have ih := lower_all r
  unfold toLowerA at ih ⊢
  rw [List.map_cons, List.cons.injEq, ih, lower_same, List.all_cons]
  simp
theorem okI_1 (t : B) : okI 1 t = okS 1 t := by
 have hw : wr 1 t = t := rfl
 have e1 : okS 1 t = wordOK t := rfl
 rw [e1]
 by_cases h0 : t = []
 ·subst h0; rfl
 have hpos : 1 ≤ t.length := List.length_pos_iff.2 h0
 have e2 : okI 1 t = backOK 1 t := by unfold okI; simp [h0]
 rw [e2]
 rcases Bool.eq_false_or_eq_true (isLet (t.getD 0 0)) with hl | hl
 ·have hs : scanL t = wrdF t (1 + cnt isWd (t.drop 1)) := if_pos hl
  obtain ⟨c, r, rfl⟩ : ∃ c r, t = c :: r := by cases t with | nil => exact absurd rfl h0 | cons c r => exact ⟨c, r, rfl⟩
  have hc : isLet c = true := hl
  unfold backOK wordOK
  rw [hw, hs, hl]
  show decide ((wrdF (c :: r) (1 + cnt isWd r)).2.2.2.1 = 0 ∧ _) = _
  have hf := cnt_full (p := isWd) r
  have hle := cnt_le isWd r
  by_cases h3 : 30 < 1 + cnt isWd r
  ·have hq : wrdF (c :: r) (1 + cnt isWd r) = err 5 := if_pos h3
   have : ¬ r.length ≤ 29 := by omega
   simp [hq, err, this]
  ·have hq : wrdF (c :: r) (1 + cnt isWd r) = (1, toLowerA ((c :: r).take (1 + cnt isWd r)), ((1 + cnt isWd r : Nat) : Int), 0, 0) := if_neg h3
   simp only [List.drop_succ_cons, List.drop_zero, hq]
   rw [Bool.eq_iff_iff]
   simp only [decide_eq_true_eq, Bool.and_eq_true, List.all_cons, List.length_cons, true_and]
   constructor
   ·rintro ⟨h4, h5⟩
    have h6 : cnt isWd r = r.length := by omega
    have h7 := hf.1 h6
    rw [h6, Nat.add_comm 1, ← List.length_cons (a := c), List.take_length] at h5
    have h8 := (lower_all _).1 h5
    rw [List.all_cons, Bool.and_eq_true] at h8
    refine ⟨⟨⟨by omega, by omega⟩, trivial⟩, ⟨wd_yes1 hc, h8.1⟩, ?_⟩
    rw [List.all_eq_true] at h7 ⊢
    intro x hx
    rw [Bool.and_eq_true]
    exact ⟨h7 x hx, List.all_eq_true.1 h8.2 x hx⟩
   ·rintro ⟨⟨⟨h4, h5⟩, _⟩, ⟨_, h6⟩, h7⟩
    have h8 : r.all isWd = true := by
     rw [List.all_eq_true] at h7 ⊢
     intro x hx
     have := h7 x hx
     rw [Bool.and_eq_true] at this
     exact this.1
    have h9 := hf.2 h8
    refine ⟨by omega, ?_⟩
    rw [h9, Nat.add_comm 1, ← List.length_cons (a := c), List.take_length, lower_all, List.all_cons, Bool.and_eq_true]
    refine ⟨h6, ?_⟩
    rw [List.all_eq_true] at h7 ⊢
    intro x hx
    have := h7 x hx
    rw [Bool.and_eq_true] at this
    exact this.2
 ·have e3 : wordOK t = false := by unfold wordOK; rw [hl]; simp
  rw [e3]
  refine back_kind ?_
  rw [hw]
  unfold scanL
  rw [if_neg (by rw [hl]; simp)]
  split
  ·rcases kind_quo (betw 34 (t.drop 1)) with h | h <;> rw [h] <;> decide
  ·split
   ·rcases kind_num t with h | h | h <;> rw [h] <;> decide
   ·split
    ·rcases kind_txt (betw 39 (t.drop 1)) with h | h <;> rw [h] <;> decide
    ·rcases kind_sgn (sgnF signB t) with h | h <;> rw [h] <;> decide
theorem num_len (t : B) (h : (scanNum t).2.2.2.1 = 0) : (scanNum t).2.1.length ≤ 20 := by
 have ne : ∀ (k : Int) (x : B) (e : Nat), (numEnd t k x e).2.2.2.1 = 0 → (numEnd t k x e).2.1 = x := fun k x e h9 => by
  unfold numEnd at h9 ⊢
  split at h9
  ·exact absurd h9 (show ¬ (2 : Int) = 0 by decide)
  ·rename_i h8; rw [if_neg h8]
 unfold scanNum at h ⊢
 simp only at h ⊢
 split at h
 ·rename_i h1; rw [if_pos h1]
  split at h
  ·exact absurd h (show ¬ (5 : Int) = 0 by decide)
  ·rename_i h2; rw [if_neg h2, ne _ _ _ h, List.length_append, List.length_take]; omega
 ·rename_i h1; rw [if_neg h1]
  split at h
  ·exact absurd h (show ¬ (5 : Int) = 0 by decide)
  ·rename_i h2; rw [if_neg h2, ne _ _ _ h]
   by_cases h3 : 19 < (whole (t.take (cnt isDig t))).length
   ·exact absurd (whole_big (cnt_all t) h3) h2
   ·omega
theorem okI_num (k : Int) (hk : k = 3 ∨ k = 4) (t : B) : okI k t = okS k t := by
 have hw : wr k t = t := by unfold wr; rw [if_neg (by omega), if_neg (by omega)]
 have e1 : okS k t = numOK k t := by unfold okS; rw [if_neg (by omega), if_neg (by omega), if_pos hk]
 rw [e1]
 by_cases h0 : t = []
 ·subst h0
  have e2 : okI k [] = false := by unfold okI; simp [show ¬ k = 5 by omega]
  rw [e2]; unfold numOK; simp
 have hpos : 1 ≤ t.length := List.length_pos_iff.2 h0
 have e2 : okI k t = backOK k t := by unfold okI; simp [h0, show ¬ k = 6 by omega, show 1 ≤ k by omega, show k ≤ 6 by omega]
 rw [e2]
 rcases Bool.eq_false_or_eq_true (isDig (t.getD 0 0)) with hd | hd
 ·have hl : isLet (t.getD 0 0) = false := by
   unfold isDig at hd; unfold isLet
   have := of_decide_eq_true hd
   exact decide_eq_false (by omega)
  have h34 : t.getD 0 0 ≠ 34 := by intro h9; rw [h9] at hd; exact absurd hd (by decide)
  have hs : scanL t = scanNum t := by unfold scanL; rw [if_neg (by rw [hl]; simp), if_neg h34, if_pos hd]
  unfold backOK numOK
  rw [hw, hs, hd, Bool.eq_iff_iff]
  simp only [decide_eq_true_eq, Bool.and_eq_true]
  constructor
  ·intro h9
   refine ⟨⟨⟨hpos, ?_⟩, trivial⟩, h9⟩
   have := num_len t h9.1
   rwa [h9.2.2.2] at this
  ·intro h9; exact h9.2
 ·have e3 : numOK k t = false := by unfold numOK; rw [hd]; simp
  rw [e3]
  refine back_kind ?_
  rw [hw]
  unfold scanL
  split
  ·rcases kind_wrd t (1 + cnt isWd (t.drop 1)) with h | h <;> rw [h] <;> omega
  ·split
   ·rcases kind_quo (betw 34 (t.drop 1)) with h | h <;> rw [h] <;> omega
   ·rw [if_neg (by rw [hd]; simp)]
    split
    ·rcases kind_txt (betw 39 (t.drop 1)) with h | h <;> rw [h] <;> omega
    ·rcases kind_sgn (sgnF signB t) with h | h <;> rw [h] <;> omega
theorem sgn_mem : ∀ (gs : List B) (l g : B), sgnF gs l = some g → g ∈ gs ∧ hasPrefix l g = true
 | [], l, g, e => by cases e
 | x :: r, l, g, e => by
  unfold sgnF at e
  split at e
  ·rename_i h; cases e; exact ⟨List.mem_cons_self, h⟩
  ·have := sgn_mem r l g e; exact ⟨List.mem_cons_of_mem _ this.1, this.2⟩
theorem sgn_starts : ∀ g ∈ signB, startOK g = true ∧ 1 ≤ g.length ∧ g.length ≤ 2 := by decide
theorem okI_6 (t : B) : okI 6 t = okS 6 t := by
 have hw : wr 6 t = t := rfl
 have e1 : okS 6 t = sgnOK t := rfl
 rw [e1]
 by_cases h0 : t = []
 ·subst h0; rfl
 by_cases h1 : t = [33, 61]
 ·subst h1; rfl
 have e2 : okI 6 t = (startOK t && backOK 6 t) := by unfold okI; simp [h0, h1]
 rw [e2]
 unfold sgnOK
 rcases Bool.eq_false_or_eq_true (startOK t) with hst | hst
 ·have hst' := hst
  unfold startOK at hst'
  simp only [Bool.and_eq_true, Bool.not_eq_true', decide_eq_false_iff_not] at hst'
  obtain ⟨⟨⟨a1, a2⟩, a3⟩, a4⟩ := hst'
  have hs : scanL t = sgnR (sgnF signB t) := by unfold scanL; rw [if_neg (by rw [a1]; simp), if_neg a3, if_neg (by rw [a2]; simp), if_neg a4]
  rw [hst, Bool.true_and]
  unfold backOK
  rw [hw, hs]
  cases e : sgnF signB t with
  | none => simp [sgnR, err]
  | some g =>
   have hm := sgn_mem signB t g e
   have hg := sgn_starts g hm.1
   rw [Bool.eq_iff_iff]
   simp only [decide_eq_true_eq, Bool.and_eq_true, sgnR, true_and, Option.some.injEq]
   constructor
   ·rintro ⟨h2, h3⟩
    have hgt : g = t := by
     have h4 := hm.2
     unfold hasPrefix at h4
     rw [List.isPrefixOf_iff_prefix] at h4
     exact h4.eq_of_length (by omega)
    subst hgt
    exact ⟨⟨hg.2.1, hg.2.2, h1⟩, rfl⟩
   ·rintro ⟨_, h3⟩
    subst h3
    exact ⟨rfl, if_neg h1⟩
 ·rw [hst, Bool.false_and]
  have : ¬ sgnF signB t = some t := fun h9 => by
   have := (sgn_starts t (sgn_mem signB t t h9).1).1
   rw [hst] at this; cases this
  simp [this]
/-- The two tests are one. -/
theorem okI_okS (k : Int) (t : B) : okI k t = okS k t := by
 by_cases h1 : k = 1
 ·subst h1; exact okI_1 t
 by_cases h2 : k = 2
 ·subst h2; exact okI_2 t
 by_cases h3 : k = 3 ∨ k = 4
 ·exact okI_num k h3 t
 by_cases h5 : k = 5
 ·subst h5; exact okI_5 t
 by_cases h6 : k = 6
 ·subst h6; exact okI_6 t
 have e1 : okS k t = false := by unfold okS; rw [if_neg h1, if_neg h2, if_neg h3, if_neg h5, if_neg h6]
 rw [e1]
 unfold okI
 rw [decide_eq_false (show ¬ (1 ≤ k ∧ k ≤ 6) by omega)]
 rfl
end Go.Proofs.YtackifpnpkbddaaGreatDoorScan
