/- Proved: plain facts of a token at the beginning of a row of bytes. -/
import Derived.Test.YtackifpnpkbddaaGreatDoorLexExt
namespace Go.Proofs.YtackifpnpkbddaaGreatDoorScan
open Go Go.RowKit Go.Proofs.YtackifpnpkbddaaGreatDoorW.PrintWords Go.Proofs.YtackifpnpkbddaaGreatDoorW.PrintLast Go.Proofs.YtackifpnpkbddaaGreatDoorW.PrintMore Go.Proofs.YtackifpnpkbddaaGreatDoor.QScan
set_option linter.unusedVariables false
set_option linter.unusedSimpArgs false
/-- The signs as rows of bytes. -/
def signB : List B := [[60, 61], [62, 61], [60, 62], [33, 61], [124, 124], [40], [41], [44], [46], [59], [43], [45], [42], [47], [37], [61], [60], [62]]
def sgnF : List B → B → Option B
 | [], _ => none
 | g :: r, l => if Lib.hasPrefix l g = true then some g else sgnF r l
abbrev err (c : Int) : R := (0, [], 0, c, 0)
def isPr (c : UInt8) : Bool := decide (32 ≤ c.toNat ∧ c.toNat ≤ 126)
def quoF : Option (B × Nat) → R
 | none => err 2
 | some x => if x.1.all isPr = false ∨ x.1 = [] then err 2 else if 30 < x.1.length then err 5 else (2, x.1, x.2 + 1, 0, 0)
def txtF : Option (B × Nat) → R
 | none => err 2
 | some x => if Lib.validD x.1 = false then err 2 else if 255 < Lib.runeCountL x.1 then err 5 else (5, x.1, x.2 + 1, 0, 0)
def sgnR : Option B → R
 | none => err 2
 | some g => (6, if g = [33, 61] then [60, 62] else g, g.length, 0, 0)
def wrdF (l : B) (n : Nat) : R := if 30 < n then err 5 else (1, Lib.toLowerA (l.take n), n, 0, 0)
/-- The token at the beginning of a row of bytes. -/
def scanL (l : B) : R :=
 if isLet (l.getD 0 0) = true then wrdF l (1 + cnt isWd (l.drop 1))
 else if l.getD 0 0 = 34 then quoF (betw 34 (l.drop 1))
 else if isDig (l.getD 0 0) = true then scanNum l
 else if l.getD 0 0 = 39 then txtF (betw 39 (l.drop 1))
 else sgnR (sgnF signB l)
theorem betw_end (q : UInt8) {l : B} {i : Nat} (h : l.length ≤ i) : betw q (l.drop i) = none := by rw [List.drop_eq_nil_of_le h]; rfl
theorem betw_other {q : UInt8} {l : B} {i : Nat} (h : i < l.length) (hq : l.getD i 0 ≠ q) : betw q (l.drop i) = (betw q (l.drop (i + 1))).map (fun x => (l.getD i 0 :: x.1, x.2 + 1)) := by
 rw [drop_cons l i h]
 cases e : l.drop (i + 1) with
 | nil => simp only [betw]; rw [if_neg hq]; rfl
 | cons d r => rw [betw, if_neg hq]
theorem betw_stop {q : UInt8} {l : B} {i : Nat} (h : i < l.length) (hq : l.getD i 0 = q) (hn : ¬ (i + 1 < l.length ∧ l.getD (i + 1) 0 = q)) : betw q (l.drop i) = some ([], 1) := by
 rw [drop_cons l i h]
 by_cases h1 : i + 1 < l.length
 ·rw [drop_cons l (i + 1) h1, betw, if_pos hq, if_neg (fun h2 => hn ⟨h1, h2⟩)]
 ·rw [List.drop_eq_nil_of_le (by omega), betw, if_pos hq]
theorem betw_two {q : UInt8} {l : B} {i : Nat} (h : i + 1 < l.length) (hq : l.getD i 0 = q) (hn : l.getD (i + 1) 0 = q) : betw q (l.drop i) = (betw q (l.drop (i + 2))).map (fun x => (q :: x.1, x.2 + 2)) := by
 rw [drop_cons l i (by omega), drop_cons l (i + 1) h, betw, if_pos hq, if_pos hn]
/-- What was read of a text between marks, and what is to come. -/
def Mid (q : UInt8) (l : B) (i : Nat) (t : B) : Prop := betw q (l.drop 1) = (betw q (l.drop i)).map (fun x => (t ++ x.1, x.2 + (i - 1)))
theorem mid_start (q : UInt8) (l : B) : Mid q l 1 [] := by unfold Mid; simp
theorem mid_other {q : UInt8} {l : B} {i : Nat} {t : B} (hm : Mid q l i t) (h1 : 1 ≤ i) (h : i < l.length) (hq : l.getD i 0 ≠ q) : Mid q l (i + 1) (t ++ [l.getD i 0]) := by
 unfold Mid at *
 rw [hm, betw_other h hq, Option.map_map]
 congr 1
 funext x
 show (t ++ (l.getD i 0 :: x.1), x.2 + 1 + (i - 1)) = (t ++ [l.getD i 0] ++ x.1, x.2 + (i + 1 - 1))
 rw [List.append_assoc]
 congr 1
 omega
theorem mid_two {q : UInt8} {l : B} {i : Nat} {t : B} (hm : Mid q l i t) (h1 : 1 ≤ i) (h : i + 1 < l.length) (hq : l.getD i 0 = q) (hn : l.getD (i + 1) 0 = q) : Mid q l (i + 2) (t ++ [q]) := by
 unfold Mid at *
 rw [hm, betw_two h hq hn, Option.map_map]
 congr 1
 funext x
 show (t ++ (q :: x.1), x.2 + 2 + (i - 1)) = (t ++ [q] ++ x.1, x.2 + (i + 2 - 1))
 rw [List.append_assoc]
 congr 1
 omega
theorem mid_end {q : UInt8} {l : B} {i : Nat} {t : B} (hm : Mid q l i t) (h : l.length ≤ i) : betw q (l.drop 1) = none := by unfold Mid at hm; rw [hm, betw_end q h]; rfl
theorem mid_stop {q : UInt8} {l : B} {i : Nat} {t : B} (hm : Mid q l i t) (h1 : 1 ≤ i) (h : i < l.length) (hq : l.getD i 0 = q) (hn : ¬ (i + 1 < l.length ∧ l.getD (i + 1) 0 = q)) : betw q (l.drop 1) = some (t, i) := by
 unfold Mid at hm
 rw [hm, betw_stop h hq hn]
 show some (t ++ [], 1 + (i - 1)) = _
 rw [List.append_nil]
 congr 2
 omega
/-- A text with a byte that is not printable makes no quoted name, whatever follows. -/
theorem mid_bad {l : B} {i : Nat} {t : B} (hm : Mid 34 l i t) (ht : ∃ c ∈ t, isPr c = false) : quoF (betw 34 (l.drop 1)) = err 2 := by
 unfold Mid at hm
 rw [hm]
 cases betw 34 (l.drop i) with
 | none => rfl
 | some x =>
  have h1 : (t ++ x.1).all isPr = false := by
   obtain ⟨c, hc, h⟩ := ht
   rw [List.all_eq_false]
   exact ⟨c, List.mem_append_left _ hc, by rw [h]; simp⟩
  show (if (t ++ x.1).all isPr = false ∨ t ++ x.1 = [] then err 2 else _) = err 2
  rw [if_pos (.inl h1)]
theorem one_data (s : ByteArray) (L : B) (hL : s.data.toList = L) (t : ByteArray) (i : Nat) (h : i < L.length) : (t ++ s.extract i (i + 1)).data.toList = t.data.toList ++ [L.getD i 0] := by
 subst hL
 simp
 rw [drop_cons s.data.toList i h]
 simp
end Go.Proofs.YtackifpnpkbddaaGreatDoorScan
