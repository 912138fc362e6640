/- Proved: for every row of bytes the law's drawn list of tokens, written and read again, comes back, places rising. No other conditions. -/
import Derived.Test.YtackifpnpkbddaaGreatDoorPureFlD
import Derived.Test.YtackifpnpkbddaaGreatDoorPureFlE
import Derived.Test.YtackifpnpkbddaaGreatDoorQFnLexedx
set_option linter.unusedVariables false
set_option linter.unusedSimpArgs false
namespace Go.Proofs.YtackifpnpkbddaaGreatDoor.PureFnLexed
open Go.RowKit Go.Lib Go.Proofs.YtackifpnpkbddaaGreatDoor.QFnLexed Go.Proofs.YtackifpnpkbddaaGreatDoorScan Go.Proofs.YtackifpnpkbddaaGreatDoor.PureFl Go.Proofs.YtackifpnpkbddaaGreatDoor.CharsFl
open Go.Proofs.YtackifpnpkbddaaGreatDoorW.PrintWords hiding Ev Ev.bind Ev.congr Ev.now Ev.of Ev.rounds Ev.step
open Go.Proofs.YtackifpnpkbddaaGreatDoorW.PrintLast hiding up
theorem toks_len : ∀ (l : List S35) (a : Nat), (toks a l).length = l.length
 | [], a => rfl
 | x :: r, a => by unfold toks; rw [List.length_cons, List.length_cons, toks_len r]
theorem toks_at : ∀ (l : List S35) (a i : Nat), i < l.length → ((toks a l).getD i z35).f0 = (l.getD i z35).f0 ∧ ((toks a l).getD i z35).f1 = (l.getD i z35).f1 ∧ (a : Int) ≤ ((toks a l).getD i z35).f2
 | [], a, i, h => absurd h (Nat.not_lt_zero _)
 | x :: r, a, 0, h => ⟨rfl, rfl, Int.le_refl _⟩
 | x :: r, a, i + 1, h => by
  have ih := toks_at r (a + (wrX x).length + 1) i (by rw [List.length_cons] at h; omega)
  exact ⟨ih.1, ih.2.1, by have : ((a + (wrX x).length + 1 : Nat) : Int) ≤ ((toks (a + (wrX x).length + 1) r).getD i z35).f2 := ih.2.2; show (a : Int) ≤ ((toks (a + (wrX x).length + 1) r).getD i z35).f2; omega⟩
theorem toks_grow : ∀ (l : List S35) (a i : Nat), i + 1 < l.length → ((toks a l).getD i z35).f2 < ((toks a l).getD (i + 1) z35).f2
 | [], a, i, h => absurd h (Nat.not_lt_zero _)
 | x :: r, a, 0, h => by
  have := (toks_at r (a + (wrX x).length + 1) 0 (by rw [List.length_cons] at h; omega)).2.2
  show (a : Int) < ((toks (a + (wrX x).length + 1) r).getD 0 z35).f2
  omega
 | x :: r, a, i + 1, h => toks_grow r (a + (wrX x).length + 1) i (by rw [List.length_cons] at h; omega)
theorem toks_all : ∀ (l : List S35) (a : Nat), (toks a l).all okX = l.all okX ∧ (toks a l).map wrX = l.map wrX
 | [], a => ⟨rfl, rfl⟩
 | x :: r, a => by
  have ih := toks_all r (a + (wrX x).length + 1)
  unfold toks
  rw [List.all_cons, List.all_cons, List.map_cons, List.map_cons, ih.1, ih.2]
  exact ⟨rfl, rfl⟩
theorem toks_ans (l : List S35) (a : Nat) : ansU (toks a l) = ansU l := by
 unfold ansU
 rw [toks_len, (toks_all l a).1, (toks_all l a).2]
theorem back_loop (l : List S35) (text : ByteArray) (hl : l.length ≤ 2000) (hend : Ev (fun k => impl_Unlex.f k (toks 0 l)) (text, 0)) : ∀ (n i : Nat), i + n = l.length →
  Ev (fun k => laws_FnLexed.l0 k l text (toks 0 l) (toks 0 l) ((toks 0 l).length : Int) (i : Int)) true
 | 0, i, h => by
  have hn := toks_len l 0
  refine Ev.succ (Ev.bind (g := fun k bt432 => if bt432.2 = 0 then (some (bt432.1.toList == text.toList)) else (some false)) hend (Ev.eq (Ev.now true) (fun k => ?_))) (fun k => ?_)
  ·show (if (0 : Int) = 0 then some (text.toList == text.toList) else some false) = some true
   rw [if_pos rfl]; simp
  ·rw [laws_FnLexed.l0, if_neg (by omega)]
 | n + 1, i, h => by
  have hn := toks_len l 0
  have ih := back_loop l text hl hend n (i + 1) (by omega)
  obtain ⟨e0, e1, _⟩ := toks_at l 0 i (by omega)
  refine Ev.succ ih (fun k => ?_)
  rw [laws_FnLexed.l0, if_pos (by omega), if_pos (by omega), if_pos (by omega), if_pos (by omega), rd35, rd35, if_pos e0, if_pos (by rw [e1]), up1 i (by omega)]
  by_cases hi : (i : Int) > 0
  ·obtain ⟨j, rfl⟩ : ∃ j, i = j + 1 := ⟨i - 1, by omega⟩
   have hj : wrap64 (((j + 1 : Nat) : Int) - 1) = (j : Int) := by rw [w64i _ (by omega) (by omega)]; omega
   have hg := toks_grow l 0 j (by omega)
   rw [if_pos hi, hj, if_pos (by omega), if_pos (by omega), rd35, if_neg (by omega)]
  ·rw [if_neg hi]
theorem FnLexed (l0 : List Int) (hw : ∀ x ∈ l0, (Lit.int .u8 x).wf = true) : ∃ k, laws_FnLexed.f k l0 = some true := by
 suffices h : Ev (fun k => laws_FnLexed.f k l0) true by
  obtain ⟨k, hk⟩ := h
  exact ⟨k, hk k (Nat.le_refl _)⟩
 by_cases c : (l0.length : Int) > 1048576
 ·exact Ev.eq (Ev.now true) (fun k => if_pos c)
 refine Ev.eq ?_ (fun k => if_neg c)
 obtain ⟨l, hd, hS⟩ := drawn l0 hw (by omega)
 have hb : ∀ i, i < l.length → (l.getD i z35).f1.size ≤ 1048576 := fun i hi => by
  have : l.getD i z35 = l[i] := by simp [List.getD, hi]
  rw [this]; exact Nat.le_trans (hS _ (List.getElem_mem hi)) (by decide)
 obtain ⟨hsp, him⟩ := unlex_both l hb
 refine Ev.bind hd (Ev.bind hsp (Ev.bind hd (Ev.bind him ?_)))
 refine Ev.eq (g := fun k => laws_FnLexed.j0 k l (ansU l).2 (ansU l).1 ((ansU l).1.toList != (ansU l).1.toList)) ?_ (fun k => if_pos rfl)
 rw [show ((ansU l).1.toList != (ansU l).1.toList) = false by simp]
 by_cases h0 : (ansU l).2 = 0
 ·have hlen : l.length ≤ 2000 := by
   apply Nat.le_of_not_lt; intro h9
   unfold ansU at h0; rw [if_pos h9] at h0; exact absurd h0 (show ¬ (1 : Int) = 0 by decide)
  have hok : l.all okX = true := by
   apply Classical.byContradiction; intro h9
   unfold ansU at h0; rw [if_neg (by omega), if_neg h9] at h0; exact absurd h0 (show ¬ (1 : Int) = 0 by decide)
  have h8 : (join (l.map wrX) [32]).length ≤ 8000 := by
   apply Nat.le_of_not_lt; intro h9
   unfold ansU fin at h0; rw [if_neg (by omega), if_pos hok, if_pos h9] at h0; exact absurd h0 (show ¬ (5 : Int) = 0 by decide)
  have ha : ansU l = (⟨(join (l.map wrX) [32]).toArray⟩, 0) := by
   unfold ansU fin; rw [if_neg (by omega), if_pos hok, if_neg (by omega)]
  rw [ha]
  have hlx := lex_told l hok hlen h8
  have hend : Ev (fun k => impl_Unlex.f k (toks 0 l)) (⟨(join (l.map wrX) [32]).toArray⟩, 0) := by
   rw [← ha, ← toks_ans l 0]
   refine (unlex_both (toks 0 l) (fun i hi => ?_)).2
   rw [toks_len] at hi
   rw [(toks_at l 0 i hi).2.1]; exact hb i hi
  have hloop := back_loop l ⟨(join (l.map wrX) [32]).toArray⟩ hlen hend l.length 0 (by omega)
  refine Ev.succ (Ev.bind (g := fun k bt422 => if bt422.2.1 = 0 then (laws_FnLexed.j1 k l ⟨(join (l.map wrX) [32]).toArray⟩ bt422.1 ((bt422.1.length : Int) != (l.length : Int))) else (laws_FnLexed.j1 k l ⟨(join (l.map wrX) [32]).toArray⟩ bt422.1 true)) hlx ?_) (fun k => ?_)
  ·refine Ev.eq (g := fun k => laws_FnLexed.j1 k l ⟨(join (l.map wrX) [32]).toArray⟩ (toks 0 l) (((toks 0 l).length : Int) != (l.length : Int))) ?_ (fun k => if_pos rfl)
   rw [show (((toks 0 l).length : Int) != (l.length : Int)) = false by rw [toks_len]; simp]
   exact Ev.succ hloop (fun k => by rw [laws_FnLexed.j1, if_neg (by simp)]; rfl)
  ·rw [laws_FnLexed.j0, if_neg (by simp), if_pos rfl]
 ·refine Ev.succ (Ev.now true) (fun k => ?_)
  rw [laws_FnLexed.j0, if_neg (by simp), if_neg h0]
end Go.Proofs.YtackifpnpkbddaaGreatDoor.PureFnLexed
