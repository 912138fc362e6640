/- Proved: a token's written form, with nothing or a blank behind it, is read as it is read alone; it begins with no blank and no comment. Plain rows of bytes; no program in sight. -/
import Derived.Test.YtackifpnpkbddaaGreatDoorUxX
set_option linter.unusedVariables false
set_option linter.unusedSimpArgs false
namespace Go.Proofs.YtackifpnpkbddaaGreatDoorScan
open Go Go.RowKit Go.Lib
/-- What may stand behind a token: nothing, or a blank. -/
def Free (r : B) : Prop := r = [] ∨ ∃ x, r = 32 :: x
theorem free_get {r : B} (h : Free r) : r.getD 0 0 = 0 ∨ r.getD 0 0 = 32 := by
 rcases h with rfl | ⟨x, rfl⟩
 ·exact .inl rfl
 ·exact .inr rfl
theorem cnt_free {p : UInt8 → Bool} (hp : p 32 = false) {r : B} (h : Free r) : cnt p r = 0 := by
 rcases h with rfl | ⟨x, rfl⟩
 ·rfl
 ·rw [cnt, if_neg (by rw [hp]; simp)]
theorem cnt_app {p : UInt8 → Bool} {r : B} (hr : cnt p r = 0) : ∀ l : B, cnt p (l ++ r) = cnt p l
 | [] => hr
 | c :: l => by
  rw [List.cons_append, cnt, cnt, cnt_app hr l]
theorem getD_left (l r : B) (i : Nat) (h : i < l.length) : (l ++ r).getD i 0 = l.getD i 0 := by
 simp [List.getD, List.getElem?_append_left h]
theorem getD_right (l r : B) : (l ++ r).getD l.length 0 = r.getD 0 0 := by
 simp [List.getD, List.getElem?_append_right]
theorem numEnd_free {r : B} (h : Free r) (l : B) (k : Int) (t : B) (e : Nat) (he : e ≤ l.length) : numEnd (l ++ r) k t e = numEnd l k t e := by
 unfold numEnd
 by_cases h1 : e < l.length
 ·rw [getD_left l r e h1, List.length_append]
  have e1 : (e < l.length + r.length ∧ isLet (l.getD e 0) = true) ↔ (e < l.length ∧ isLet (l.getD e 0) = true) := ⟨fun h9 => ⟨h1, h9.2⟩, fun h9 => ⟨by omega, h9.2⟩⟩
  simp only [e1]
 ·obtain rfl : e = l.length := by omega
  rw [getD_right, if_neg, if_neg (fun h9 => h1 h9.1)]
  rintro ⟨_, h9⟩
  rcases free_get h with h8 | h8 <;> rw [h8] at h9 <;> exact absurd h9 (by decide)
theorem scanNum_free {r : B} (h : Free r) (l : B) : scanNum (l ++ r) = scanNum l := by
 have hd : isDig 32 = false := by decide
 have hn : cnt isDig (l ++ r) = cnt isDig l := cnt_app (cnt_free hd h) l
 have hle := cnt_le isDig l
 obtain ⟨n, hn0⟩ : ∃ n, cnt isDig l = n := ⟨_, rfl⟩
 rw [hn0] at hn hle
 have ht : (l ++ r).take n = l.take n := List.take_append_of_le_length hle
 have hc : (n + 1 < (l ++ r).length ∧ (l ++ r).getD n 0 = 46 ∧ isDig ((l ++ r).getD (n + 1) 0) = true) ↔ (n + 1 < l.length ∧ l.getD n 0 = 46 ∧ isDig (l.getD (n + 1) 0) = true) := by
  by_cases h1 : n + 1 < l.length
  ·rw [getD_left l r n (by omega), getD_left l r (n + 1) h1, List.length_append]
   exact ⟨fun h9 => ⟨h1, h9.2⟩, fun h9 => ⟨by omega, h9.2⟩⟩
  ·refine ⟨fun h9 => ?_, fun h9 => absurd h9.1 h1⟩
   exfalso
   by_cases h2 : n < l.length
   ·have e : n + 1 = l.length := by omega
    have h8 := h9.2.2
    rw [e, getD_right] at h8
    rcases free_get h with h7 | h7 <;> rw [h7] at h8 <;> exact absurd h8 (by decide)
   ·have e : n = l.length := by omega
    have h8 := h9.2.1
    rw [e, getD_right] at h8
    rcases free_get h with h7 | h7 <;> rw [h7] at h8 <;> exact absurd h8 (by decide)
 unfold scanNum
 simp only
 rw [hn, hn0, ht]
 by_cases c1 : n + 1 < l.length ∧ l.getD n 0 = 46 ∧ isDig (l.getD (n + 1) 0) = true
 ·rw [if_pos c1, if_pos (hc.2 c1)]
  have hm : cnt isDig ((l ++ r).drop (n + 1)) = cnt isDig (l.drop (n + 1)) := by
   rw [List.drop_append_of_le_length (by omega)]; exact cnt_app (cnt_free hd h) _
  have hml := cnt_le isDig (l.drop (n + 1))
  rw [List.length_drop] at hml
  rw [hm, List.drop_append_of_le_length hle, List.take_append_of_le_length (by rw [List.length_drop]; omega), numEnd_free h l _ _ _ (by omega)]
 ·rw [if_neg c1, if_neg (fun h9 => c1 (hc.1 h9)), numEnd_free h l _ _ _ hle]
theorem betw_free (q : UInt8) (hq : q ≠ 32) {x : B} (h : Free x) : ∀ l : B, betw q (dbl q l ++ (q :: x)) = some (l, (dbl q l).length + 1)
 | [] => by
  show betw q (q :: x) = _
  rcases h with rfl | ⟨y, rfl⟩
  ·unfold betw; rw [if_pos rfl]; rfl
  ·rw [betw, if_pos rfl, if_neg (Ne.symm hq)]; rfl
 | c :: r => by
  have ih := betw_free q hq h r
  unfold dbl
  by_cases h1 : c = q
  ·subst h1
   rw [if_pos rfl]
   show betw c (c :: c :: (dbl c r ++ (c :: x))) = _
   rw [betw, if_pos rfl, if_pos rfl, ih]; simp
  ·rw [if_neg h1]
   show betw q (c :: (dbl q r ++ (q :: x))) = _
   obtain ⟨d, r2, e⟩ : ∃ d r2, dbl q r ++ (q :: x) = d :: r2 := by
    cases e : dbl q r ++ (q :: x) with
    | nil => simp at e
    | cons d r2 => exact ⟨d, r2, rfl⟩
   rw [e, betw, if_neg h1, ← e, ih]; simp
theorem sgn_free {x : B} (h : Free x) : ∀ t ∈ signB, sgnF signB (t ++ x) = sgnF signB t := by
 intro t ht
 simp only [signB, List.mem_cons, List.not_mem_nil, or_false] at ht
 rcases h with rfl | ⟨y, rfl⟩
 ·rw [List.append_nil]
 ·rcases ht with e | e | e | e | e | e | e | e | e | e | e | e | e | e | e | e | e | e <;> subst e <;> rfl
theorem dig_first {c : UInt8} (h : isDig c = true) : isLet c = false ∧ c ≠ 34 := by
 unfold isDig at h; unfold isLet
 have := of_decide_eq_true h
 exact ⟨decide_eq_false (by omega), by rintro rfl; exact absurd h (by decide)⟩
/-- A token that stands is read alike with nothing or a blank behind it. -/
theorem scan_free (k : Int) (t : B) (h : okS k t = true) {x : B} (hx : Free x) : scanL (wr k t ++ x) = scanL (wr k t) := by
 by_cases h1 : k = 1
 ·subst h1
  have hw : wr 1 t = t := rfl
  have h' : wordOK t = true := h
  unfold wordOK at h'
  simp only [Bool.and_eq_true, decide_eq_true_eq] at h'
  obtain ⟨⟨⟨a1, _⟩, a3⟩, _⟩ := h'
  obtain ⟨c, r, rfl⟩ : ∃ c r, t = c :: r := by cases t with | nil => simp at a1 | cons c r => exact ⟨c, r, rfl⟩
  have a3' : isLet c = true := a3
  rw [hw]
  have e : ∀ l : B, scanL (c :: l) = wrdF (c :: l) (1 + cnt isWd l) := fun l => if_pos a3'
  rw [List.cons_append, e, e, cnt_app (cnt_free (by decide) hx)]
  have := cnt_le isWd r
  unfold wrdF
  rw [← List.cons_append, List.take_append_of_le_length (by simp only [List.length_cons]; omega)]
 by_cases h2 : k = 2
 ·subst h2
  have e : ∀ y : B, Free y → scanL (34 :: (dbl 34 t ++ (34 :: y))) = quoF (some (t, (dbl 34 t).length + 1)) := fun y hy => by
   unfold scanL
   rw [getD_cons0, if_neg (show ¬ isLet 34 = true by decide), if_pos (show (34 : UInt8) = 34 from rfl)]
   exact congrArg quoF (betw_free 34 (by decide) hy t)
  have hw : ∀ y : B, wr 2 t ++ y = 34 :: (dbl 34 t ++ (34 :: y)) := fun y => by
   show 34 :: (dbl 34 t ++ [34]) ++ y = _
   simp
  rw [← List.append_nil (wr 2 t), List.append_assoc, List.nil_append, hw, hw, e x hx, e [] (.inl rfl)]
 by_cases h5 : k = 5
 ·subst h5
  have e : ∀ y : B, Free y → scanL (39 :: (dbl 39 t ++ (39 :: y))) = txtF (some (t, (dbl 39 t).length + 1)) := fun y hy => by
   unfold scanL
   rw [getD_cons0, if_neg (show ¬ isLet 39 = true by decide), if_neg (show ¬ (39 : UInt8) = 34 by decide), if_neg (show ¬ isDig 39 = true by decide), if_pos (show (39 : UInt8) = 39 from rfl)]
   exact congrArg txtF (betw_free 39 (by decide) hy t)
  have hw : ∀ y : B, wr 5 t ++ y = 39 :: (dbl 39 t ++ (39 :: y)) := fun y => by
   show 39 :: (dbl 39 t ++ [39]) ++ y = _
   simp
  rw [← List.append_nil (wr 5 t), List.append_assoc, List.nil_append, hw, hw, e x hx, e [] (.inl rfl)]
 by_cases h3 : k = 3 ∨ k = 4
 ·have hw : wr k t = t := by unfold wr; rw [if_neg h2, if_neg h5]
  have h' : numOK k t = true := by unfold okS at h; rwa [if_neg h1, if_neg h2, if_pos h3] at h
  unfold numOK at h'
  simp only [Bool.and_eq_true, decide_eq_true_eq] at h'
  obtain ⟨⟨⟨a1, _⟩, a3⟩, _⟩ := h'
  obtain ⟨c, r, rfl⟩ : ∃ c r, t = c :: r := by cases t with | nil => simp at a1 | cons c r => exact ⟨c, r, rfl⟩
  have a3' : isDig c = true := a3
  obtain ⟨b1, b2⟩ := dig_first a3'
  have e : ∀ l : B, scanL (c :: l) = scanNum (c :: l) := fun l => by
   unfold scanL
   rw [getD_cons0, if_neg (by rw [b1]; simp), if_neg b2, if_pos a3']
  rw [hw, List.cons_append, e, e, ← List.cons_append, scanNum_free hx]
 by_cases h6 : k = 6
 ·subst h6
  have hw : wr 6 t = t := rfl
  have h' : sgnOK t = true := h
  unfold sgnOK at h'
  simp only [Bool.and_eq_true, decide_eq_true_eq] at h'
  have hm := (sgn_mem signB t t h'.2).1
  have hst := (sgn_starts t hm)
  obtain ⟨c, r, rfl⟩ : ∃ c r, t = c :: r := by cases t with | nil => simp at hst | cons c r => exact ⟨c, r, rfl⟩
  have hst' := hst.1
  unfold startOK at hst'
  rw [getD_cons0] at hst'
  simp only [Bool.and_eq_true, Bool.not_eq_true', decide_eq_false_iff_not] at hst'
  obtain ⟨⟨⟨a1, a2⟩, a3⟩, a4⟩ := hst'
  have e : ∀ l : B, scanL (c :: l) = sgnR (sgnF signB (c :: l)) := fun l => by
   unfold scanL
   rw [getD_cons0, if_neg (by rw [a1]; simp), if_neg a3, if_neg (by rw [a2]; simp), if_neg a4]
  rw [hw, List.cons_append, e, e, ← List.cons_append, sgn_free hx _ hm]
 ·exfalso
  unfold okS at h
  rw [if_neg h1, if_neg h2, if_neg h3, if_neg h5, if_neg h6] at h
  cases h
/-- What is read at a token that stands. -/
theorem scan_tok (k : Int) (t : B) (h : okS k t = true) {x : B} (hx : Free x) : (scanL (wr k t ++ x)).2.2.2.1 = 0 ∧ (scanL (wr k t ++ x)).2.2.1 = ((wr k t).length : Int) ∧ (scanL (wr k t ++ x)).1 = k ∧ (scanL (wr k t ++ x)).2.1 = t := by
 rw [scan_free k t h hx]
 have h9 : okI k t = true := by rw [okI_okS]; exact h
 unfold okI at h9
 simp only [Bool.and_eq_true] at h9
 have := h9.2
 unfold backOK at this
 exact of_decide_eq_true this
/-- A token begins with no blank and no comment. -/
def Fine (l : B) : Prop := ∃ c y, l = c :: y ∧ c ≠ 32 ∧ c ≠ 9 ∧ c ≠ 10 ∧ c ≠ 13 ∧ hasPrefix l [45, 45] = false
theorem fine_of (c : UInt8) (y : B) (h : c ≠ 32 ∧ c ≠ 9 ∧ c ≠ 10 ∧ c ≠ 13 ∧ c ≠ 45) : Fine (c :: y) := by
 refine ⟨c, y, rfl, h.1, h.2.1, h.2.2.1, h.2.2.2.1, ?_⟩
 show ((45 == c) && _) = false
 rw [show ((45 : UInt8) == c) = false from beq_eq_false_iff_ne.2 (Ne.symm h.2.2.2.2)]
 rfl
theorem fine_sgn {x : B} (h : Free x) : ∀ t ∈ signB, Fine (t ++ x) := by
 intro t ht
 simp only [signB, List.mem_cons, List.not_mem_nil, or_false] at ht
 have d : Fine ([45] ++ x) := by
  refine ⟨45, x, rfl, by decide, by decide, by decide, by decide, ?_⟩
  rcases h with rfl | ⟨y, rfl⟩ <;> rfl
 rcases ht with e | e | e | e | e | e | e | e | e | e | e | e | e | e | e | e | e | e <;> subst e <;> first | exact d | exact fine_of _ _ (by decide)
theorem fine_tok (k : Int) (t : B) (h : okS k t = true) {x : B} (hx : Free x) : Fine (wr k t ++ x) := by
 by_cases h1 : k = 1
 ·subst h1
  have hw : wr 1 t = t := rfl
  have h' : wordOK t = true := h
  unfold wordOK at h'
  simp only [Bool.and_eq_true, decide_eq_true_eq] at h'
  obtain ⟨⟨⟨a1, _⟩, a3⟩, _⟩ := h'
  obtain ⟨c, r, rfl⟩ : ∃ c r, t = c :: r := by cases t with | nil => simp at a1 | cons c r => exact ⟨c, r, rfl⟩
  have a3' : isLet c = true := a3
  rw [hw, List.cons_append]
  refine fine_of _ _ ?_
  refine ⟨?_, ?_, ?_, ?_, ?_⟩ <;> (rintro rfl; exact absurd a3' (by decide))
 by_cases h2 : k = 2
 ·subst h2
  exact fine_of 34 _ (by decide)
 by_cases h5 : k = 5
 ·subst h5
  exact fine_of 39 _ (by decide)
 by_cases h3 : k = 3 ∨ k = 4
 ·have hw : wr k t = t := by unfold wr; rw [if_neg h2, if_neg h5]
  have h' : numOK k t = true := by unfold okS at h; rwa [if_neg h1, if_neg h2, if_pos h3] at h
  unfold numOK at h'
  simp only [Bool.and_eq_true, decide_eq_true_eq] at h'
  obtain ⟨⟨⟨a1, _⟩, a3⟩, _⟩ := h'
  obtain ⟨c, r, rfl⟩ : ∃ c r, t = c :: r := by cases t with | nil => simp at a1 | cons c r => exact ⟨c, r, rfl⟩
  have a3' : isDig c = true := a3
  rw [hw, List.cons_append]
  refine fine_of _ _ ?_
  refine ⟨?_, ?_, ?_, ?_, ?_⟩ <;> (rintro rfl; exact absurd a3' (by decide))
 by_cases h6 : k = 6
 ·subst h6
  have hw : wr 6 t = t := rfl
  have h' : sgnOK t = true := h
  unfold sgnOK at h'
  simp only [Bool.and_eq_true, decide_eq_true_eq] at h'
  rw [hw]
  exact fine_sgn hx t (sgn_mem signB t t h'.2).1
 ·exfalso
  unfold okS at h
  rw [if_neg h1, if_neg h2, if_neg h3, if_neg h5, if_neg h6] at h
  cases h
end Go.Proofs.YtackifpnpkbddaaGreatDoorScan
