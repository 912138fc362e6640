/- Proved: what a token's written form is, and that reading it gives the token back just where the reference's test says so. Plain rows of bytes; no program in sight. -/
import Derived.Test.YtackifpnpkbddaaGreatDoorNumQ
import Derived.Lib.Replace
set_option linter.unusedVariables false
set_option linter.unusedSimpArgs false
namespace Go.Proofs.YtackifpnpkbddaaGreatDoorScan
open Go Go.RowKit Go.Lib
/-- Each mark twice. -/
def dbl (q : UInt8) : B → B
 | [] => []
 | c :: r => if c = q then q :: q :: dbl q r else c :: dbl q r
theorem dbl_len (q : UInt8) : ∀ l : B, l.length ≤ (dbl q l).length ∧ (dbl q l).length ≤ 2 * l.length
 | [] => by simp [dbl]
 | c :: r => by
  have := dbl_len q r
  unfold dbl; split <;> simp only [List.length_cons] <;> omega
theorem replaceK_other (q b : UInt8) (new : B) (h : b ≠ q) : ∀ (k : Nat) (l : B), replaceK [q] new k (b :: l) = b :: replaceK [q] new k l
 | 0, l => rfl
 | k + 1, l => by
  have e1 : index (b :: l) [q] = if index l [q] == -1 then -1 else index l [q] + 1 := by
   show (if List.isPrefixOf [q] (b :: l) then (0 : Int) else _) = _
   rw [if_neg (by simp [List.isPrefixOf, Ne.symm h])]
  rcases index_spec l [q] with ⟨h1, _⟩ | ⟨i, h1, hi, _⟩
  ·rw [replaceK, replaceK, e1, h1]; rfl
  ·have hn : ¬ ((i : Int) == -1) = true := fun e => by have := beq_iff_eq.1 e; omega
   have e2 : index (b :: l) [q] = ((i + 1 : Nat) : Int) := by rw [e1, h1, if_neg hn]; omega
   rw [replaceK_hit [q] new k (b :: l) (i + 1) e2, replaceK_hit [q] new k l i h1]
   rfl
theorem replaceK_dbl (q : UInt8) : ∀ l : B, replaceK [q] [q, q] (count l [q]) l = dbl q l
 | [] => by
  show replaceK [q] [q, q] (count [] [q]) [] = []
  rw [show count [] [q] = 0 from by rw [count_one]; rfl]; rfl
 | b :: l => by
  have ih := replaceK_dbl q l
  unfold dbl
  by_cases h : b = q
  ·subst h
   rw [if_pos rfl, count_cons_eq, Nat.add_comm, replaceK_hit [b] [b, b] _ (b :: l) 0 (index_first (i := 0) (Nat.zero_le _) (by simp [occAt, List.isPrefixOf]) (fun _ h => absurd h (Nat.not_lt_zero _)))]
   show [] ++ [b, b] ++ replaceK [b] [b, b] (count l [b]) l = _
   rw [ih]; rfl
  ·rw [if_neg h, count_cons_ne b q l h, replaceK_other q b [q, q] h, ih]
theorem replaceAll_dbl (q : UInt8) (l : B) : replaceAll l [q] [q, q] = dbl q l := by
 unfold replaceAll replace replaceNum
 rw [if_neg (by simp), if_pos (.inl (by decide))]
 exact replaceK_dbl q l
/-- What stands between the marks, read back. -/
theorem betw_dbl (q : UInt8) : ∀ l : B, betw q (dbl q l ++ [q]) = some (l, (dbl q l).length + 1)
 | [] => by
  show betw q [q] = _
  unfold betw; rw [if_pos rfl]; rfl
 | c :: r => by
  have ih := betw_dbl q r
  unfold dbl
  by_cases h : c = q
  ·subst h
   rw [if_pos rfl]
   show betw c (c :: c :: (dbl c r ++ [c])) = _
   rw [betw, if_pos rfl, if_pos rfl, ih]; simp
  ·rw [if_neg h]
   show betw q (c :: (dbl q r ++ [q])) = _
   obtain ⟨d, r2, e⟩ : ∃ d r2, dbl q r ++ [q] = d :: r2 := by
    cases e : dbl q r ++ [q] with
    | nil => simp at e
    | cons d r2 => exact ⟨d, r2, rfl⟩
   rw [e, betw, if_neg h, ← e, ih]; simp
/-- A token's written form. -/
def wr (k : Int) (t : B) : B := if k = 2 then 34 :: (dbl 34 t ++ [34]) else if k = 5 then 39 :: (dbl 39 t ++ [39]) else t
theorem wr_len (k : Int) (t : B) : (wr k t).length ≤ 2 * t.length + 2 := by
 unfold wr
 have h1 := dbl_len 34 t; have h2 := dbl_len 39 t
 split
 ·simp only [List.length_cons, List.length_append, List.length_nil]; omega
 ·split
  ·simp only [List.length_cons, List.length_append, List.length_nil]; omega
  ·omega
/-- Does reading what is written give the token back. -/
def backOK (k : Int) (t : B) : Bool := decide ((scanL (wr k t)).2.2.2.1 = 0 ∧ (scanL (wr k t)).2.2.1 = ((wr k t).length : Int) ∧ (scanL (wr k t)).1 = k ∧ (scanL (wr k t)).2.1 = t)
def startOK (t : B) : Bool := !(isLet (t.getD 0 0)) && !(isDig (t.getD 0 0)) && !decide (t.getD 0 0 = 34) && !decide (t.getD 0 0 = 39)
/-- The program's test of a token. -/
def okI (k : Int) (t : B) : Bool := decide (1 ≤ k ∧ k ≤ 6) && !(decide (t = [] ∧ k ≠ 5)) && !(decide (k = 6 ∧ t = [33, 61])) && (decide (k ≠ 6) || startOK t) && backOK k t
def isGreat (c : UInt8) : Bool := decide (65 ≤ c.toNat ∧ c.toNat ≤ 90)
def wordOK (t : B) : Bool := decide (1 ≤ t.length ∧ t.length ≤ 30) && isLet (t.getD 0 0) && t.all fun c => isWd c && !isGreat c
def nameOK (t : B) : Bool := decide (1 ≤ t.length ∧ t.length ≤ 30) && t.all isPr
def numOK (k : Int) (t : B) : Bool := decide (1 ≤ t.length ∧ t.length ≤ 20) && isDig (t.getD 0 0) && decide ((scanNum t).2.2.2.1 = 0 ∧ (scanNum t).2.2.1 = (t.length : Int) ∧ (scanNum t).1 = k ∧ (scanNum t).2.1 = t)
def txtOK (t : B) : Bool := validD t && decide (runeCountL t ≤ 255)
def sgnOK (t : B) : Bool := decide (1 ≤ t.length ∧ t.length ≤ 2 ∧ t ≠ [33, 61]) && decide (sgnF signB t = some t)
/-- The reference's test of a token. -/
def okS (k : Int) (t : B) : Bool := if k = 1 then wordOK t else if k = 2 then nameOK t else if k = 3 ∨ k = 4 then numOK k t else if k = 5 then txtOK t else if k = 6 then sgnOK t else false
theorem getD_cons0 (c : UInt8) (r : B) : (c :: r).getD 0 0 = c := rfl
theorem okI_2 (t : B) : okI 2 t = okS 2 t := by
 obtain ⟨m, hm⟩ : ∃ m, (dbl 34 t).length + 1 = m := ⟨_, rfl⟩
 have hs : scanL (wr 2 t) = quoF (some (t, m)) := by
  show scanL (34 :: (dbl 34 t ++ [34])) = _
  unfold scanL
  rw [getD_cons0, if_neg (show ¬ isLet 34 = true by decide), if_pos (show (34 : UInt8) = 34 from rfl), ← hm]
  exact congrArg quoF (betw_dbl 34 t)
 have hl : ((wr 2 t).length : Int) = (m : Int) + 1 := by
  show ((34 :: (dbl 34 t ++ [34]) : B).length : Int) = _
  simp only [List.length_cons, List.length_append, List.length_nil]; omega
 have e1 : okS 2 t = (decide (1 ≤ t.length ∧ t.length ≤ 30) && t.all isPr) := rfl
 rw [e1]
 unfold okI backOK
 rw [hs, hl]
 by_cases h0 : t = []
 ·subst h0; rfl
 ·have hpos : 1 ≤ t.length := List.length_pos_iff.2 h0
  rcases Bool.eq_false_or_eq_true (t.all isPr) with hp | hp
  ·by_cases h3 : 30 < t.length
   ·have hq : quoF (some (t, m)) = err 5 := (if_neg (by rw [hp]; simp [h0])).trans (if_pos h3)
    rw [hq]; simp [h0, err, show ¬ t.length ≤ 30 by omega]
   ·have hq : quoF (some (t, m)) = (2, t, (m : Int) + 1, 0, 0) := (if_neg (by rw [hp]; simp [h0])).trans (if_neg h3)
    rw [hq, hp]; simp [h0, hpos, show t.length ≤ 30 by omega]
  ·have hq : quoF (some (t, m)) = err 2 := if_pos (.inl hp)
   rw [hq, hp]; simp [h0, err]
theorem okI_5 (t : B) : okI 5 t = okS 5 t := by
 obtain ⟨m, hm⟩ : ∃ m, (dbl 39 t).length + 1 = m := ⟨_, rfl⟩
 have hs : scanL (wr 5 t) = txtF (some (t, m)) := by
  show scanL (39 :: (dbl 39 t ++ [39])) = _
  unfold scanL
  rw [getD_cons0, if_neg (show ¬ isLet 39 = true by decide), if_neg (show ¬ (39 : UInt8) = 34 by decide), if_neg (show ¬ isDig 39 = true by decide), if_pos (show (39 : UInt8) = 39 from rfl), ← hm]
  exact congrArg txtF (betw_dbl 39 t)
 have hl : ((wr 5 t).length : Int) = (m : Int) + 1 := by
  show ((39 :: (dbl 39 t ++ [39]) : B).length : Int) = _
  simp only [List.length_cons, List.length_append, List.length_nil]; omega
 have e1 : okS 5 t = (validD t && decide (runeCountL t ≤ 255)) := rfl
 rw [e1]
 unfold okI backOK
 rw [hs, hl]
 rcases Bool.eq_false_or_eq_true (validD t) with hp | hp
 ·by_cases h3 : 255 < runeCountL t
  ·have hq : txtF (some (t, m)) = err 5 := (if_neg (by rw [hp]; simp)).trans (if_pos h3)
   rw [hq]; simp [err, show ¬ runeCountL t ≤ 255 by omega]
  ·have hq : txtF (some (t, m)) = (5, t, (m : Int) + 1, 0, 0) := (if_neg (by rw [hp]; simp)).trans (if_neg h3)
   rw [hq, hp]; simp [show runeCountL t ≤ 255 by omega]
 ·have hq : txtF (some (t, m)) = err 2 := if_pos hp
  rw [hq, hp]; simp [err]
/-! ### which kind is read -/
theorem kind_quo (o : Option (B × Nat)) : (quoF o).1 = 0 ∨ (quoF o).1 = 2 := by
 cases o with
 | none => exact .inl rfl
 | some x => unfold quoF; simp only; split; exact .inl rfl; split; exact .inl rfl; exact .inr rfl
theorem kind_txt (o : Option (B × Nat)) : (txtF o).1 = 0 ∨ (txtF o).1 = 5 := by
 cases o with
 | none => exact .inl rfl
 | some x => unfold txtF; simp only; split; exact .inl rfl; split; exact .inl rfl; exact .inr rfl
theorem kind_sgn (o : Option B) : (sgnR o).1 = 0 ∨ (sgnR o).1 = 6 := by
 cases o with
 | none => exact .inl rfl
 | some x => exact .inr rfl
theorem kind_wrd (l : B) (n : Nat) : (wrdF l n).1 = 0 ∨ (wrdF l n).1 = 1 := by
 unfold wrdF; split; exact .inl rfl; exact .inr rfl
theorem kind_end (l : B) (k : Int) (t : B) (e : Nat) : (numEnd l k t e).1 = 0 ∨ (numEnd l k t e).1 = k := by
 unfold numEnd; split; exact .inl rfl; exact .inr rfl
theorem kind_num (l : B) : (scanNum l).1 = 0 ∨ (scanNum l).1 = 3 ∨ (scanNum l).1 = 4 := by
 unfold scanNum
 simp only
 split
 ·split
  ·exact .inl rfl
  ·rcases kind_end l 4 (whole (l.take (cnt isDig l)) ++ (l.drop (cnt isDig l)).take (cnt isDig (l.drop (cnt isDig l + 1)) + 1)) (cnt isDig l + 1 + cnt isDig (l.drop (cnt isDig l + 1))) with h | h
   ·exact .inl h
   ·exact .inr (.inr h)
 ·split
  ·exact .inl rfl
  ·rcases kind_end l 3 (whole (l.take (cnt isDig l))) (cnt isDig l) with h | h
   ·exact .inl h
   ·exact .inr (.inl h)
theorem back_kind {k : Int} {t : B} (h : (scanL (wr k t)).1 ≠ k) : backOK k t = false := by
 unfold backOK; exact decide_eq_false (fun h9 => h h9.2.2.1)
end Go.Proofs.YtackifpnpkbddaaGreatDoorScan
