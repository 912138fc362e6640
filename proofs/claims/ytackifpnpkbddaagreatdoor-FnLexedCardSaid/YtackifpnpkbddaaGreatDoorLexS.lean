/- Proved: plain facts of what a token at the beginning of a row of bytes is. No program in sight. -/
import Derived.Test.YtackifpnpkbddaaGreatDoorQScanx
import Derived.Lib.ParseIntB
import Derived.Lib.TrimByte
import Derived.Lib.Case
import Derived.Lib.ValidU
import Derived.Lib.RuneCount
namespace Go.Proofs.YtackifpnpkbddaaGreatDoorScan
open Go Go.RowKit Go.Proofs.YtackifpnpkbddaaGreatDoorW.PrintWords Go.Proofs.YtackifpnpkbddaaGreatDoor.QScan
/-- A box of three cells, set anew. -/
theorem put3 {w : World} {b : Nat} {x y z x' y' z' : Value} {t : TypeId} (h : w.heap[b]? = some (.cells #[x, y, z] t (0, 0))) : (((w.setCell ⟨b, 0, none⟩ x').setCell ⟨b, 1, none⟩ y').setCell ⟨b, 2, none⟩ z').heap[b]? = some (.cells #[x', y', z'] t (0, 0)) :=
 blk_put (blk_put (blk_put h 0 x' rfl) 1 y' rfl) 2 z' rfl
/-- Six facts on a box of three cells. -/
theorem row3 {w : World} {b : Nat} {x y z : Value} {t : TypeId} (h : w.heap[b]? = some (.cells #[x, y, z] t (0, 0))) : w.cell? ⟨b, 0, none⟩ = some x ∧ w.cell? ⟨b, 1, none⟩ = some y ∧ w.cell? ⟨b, 2, none⟩ = some z ∧ w.frozen? ⟨b, 0, none⟩ = false ∧ w.frozen? ⟨b, 1, none⟩ = false ∧ w.frozen? ⟨b, 2, none⟩ = false :=
 ⟨(blk_cell h 0).trans rfl, (blk_cell h 1).trans rfl, (blk_cell h 2).trans rfl, blk_frozen h 0, blk_frozen h 1, blk_frozen h 2⟩
abbrev B := List UInt8
def isLet (c : UInt8) : Bool := decide (97 ≤ c.toNat ∧ c.toNat ≤ 122 ∨ 65 ≤ c.toNat ∧ c.toNat ≤ 90 ∨ c.toNat = 95)
def isDig (c : UInt8) : Bool := decide (48 ≤ c.toNat ∧ c.toNat ≤ 57)
def isWd (c : UInt8) : Bool := isLet c || isDig c
/-- How many bytes at the beginning are such. -/
def cnt (p : UInt8 → Bool) : B → Nat
 | [] => 0
 | c :: r => if p c then cnt p r + 1 else 0
/-- What stands before a closing mark (each mark in it twice), and how many bytes that takes with the mark. -/
def betw (q : UInt8) : B → Option (B × Nat)
 | [] => none
 | [c] => if c = q then some ([], 1) else none
 | c :: d :: r => if c = q then (if d = q then (betw q r).map (fun x => (q :: x.1, x.2 + 2)) else some ([], 1)) else (betw q (d :: r)).map (fun x => (c :: x.1, x.2 + 1))
/-- The number that digits spell. -/
def val : Nat → B → Nat
 | a, [] => a
 | a, c :: r => val (a * 10 + (c.toNat - 48)) r
def whole (l : B) : B := if Lib.trimLeftB l 48 = [] then [48] else Lib.trimLeftB l 48
abbrev R := Int × B × Int × Int × Int
/-- A number's end: no letter may follow. -/
def numEnd (l : B) (kind : Int) (t : B) (e : Nat) : R := if e < l.length ∧ isLet (l.getD e 0) = true then (0, [], 0, 2, e) else (kind, t, e, 0, 0)
def scanNum (l : B) : R :=
 let n := cnt isDig l
 let w := whole (l.take n)
 if n + 1 < l.length ∧ l.getD n 0 = 46 ∧ isDig (l.getD (n + 1) 0) = true then
  let m := cnt isDig (l.drop (n + 1))
  if 14 < w.length ∨ 4 < m then (0, [], 0, 5, 0) else numEnd l 4 (w ++ (l.drop n).take (m + 1)) (n + 1 + m)
 else if 9223372036854775808 ≤ val 0 w then (0, [], 0, 5, 0) else numEnd l 3 w n
theorem bt_get (s : ByteArray) (i : Nat) (h : i < s.size) : bt s (i : Int) = ((s.data.toList.getD i 0).toNat : Int) := by
 unfold bt
 have h' : (i : Int).toNat < s.size := by rw [Int.toNat_natCast]; exact h
 rw [dif_pos h']
 have h2 : i < s.data.size := h
 simp [List.getD, Int.toNat_natCast, ByteArray.getElem_eq_getElem_data]
 rw [Array.getElem?_eq_getElem h2]; rfl
theorem bt_nat (s : ByteArray) (i : Nat) : ∀ h : i < s.size, ((s[i]'h).toNat : Int) = bt s (i : Int) := fun h => by have := bt_at s (i : Int); simp only [Int.toNat_natCast] at this; exact this h
theorem drop_cons (l : B) (i : Nat) (h : i < l.length) : l.drop i = l.getD i 0 :: l.drop (i + 1) := by
 rw [List.drop_eq_getElem_cons h]
 simp [List.getD, h]
theorem cnt_yes {p : UInt8 → Bool} {l : B} {i : Nat} (h : i < l.length) (hp : p (l.getD i 0) = true) : cnt p (l.drop i) = cnt p (l.drop (i + 1)) + 1 := by
 rw [drop_cons l i h, cnt, if_pos hp]
theorem cnt_no {p : UInt8 → Bool} {l : B} {i : Nat} (h : i < l.length) (hp : p (l.getD i 0) = false) : cnt p (l.drop i) = 0 := by
 rw [drop_cons l i h, cnt, if_neg (by rw [hp]; simp)]
theorem cnt_end {p : UInt8 → Bool} {l : B} {i : Nat} (h : l.length ≤ i) : cnt p (l.drop i) = 0 := by
 rw [List.drop_eq_nil_of_le h]; rfl
theorem cnt_le (p : UInt8 → Bool) : ∀ l : B, cnt p l ≤ l.length
 | [] => Nat.le_refl _
 | c :: r => by unfold cnt; split <;> simp; exact cnt_le p r
theorem size_len (s : ByteArray) : s.size = s.data.toList.length := rfl
theorem dig_f (c : UInt8) : impl_isDigit.f (c.toNat : Int) = some (isDig c) := by
 unfold impl_isDigit.f isDig
 by_cases h : 48 ≤ c.toNat
 ·rw [if_pos (by omega)]
  by_cases h2 : c.toNat ≤ 57
  ·rw [decide_eq_true (by omega), decide_eq_true (by omega)]
  ·rw [decide_eq_false (by omega), decide_eq_false (by omega)]
 ·rw [if_neg (by omega), decide_eq_false (by omega)]
theorem let_f (c : UInt8) : impl_isLetter.f (c.toNat : Int) = some (isLet c) := by
 unfold impl_isLetter.f isLet
 by_cases h1 : 97 ≤ c.toNat <;> by_cases h2 : c.toNat ≤ 122 <;> by_cases h3 : 65 ≤ c.toNat <;> by_cases h4 : c.toNat ≤ 90 <;> by_cases h5 : c.toNat = 95
 all_goals first | (exfalso; omega) | skip
 all_goals simp only [ge_iff_le, show ((97 : Int) ≤ (c.toNat : Int)) = (97 ≤ c.toNat) from propext (by omega), show ((c.toNat : Int) ≤ 122) = (c.toNat ≤ 122) from propext (by omega), show ((65 : Int) ≤ (c.toNat : Int)) = (65 ≤ c.toNat) from propext (by omega), show ((c.toNat : Int) ≤ 90) = (c.toNat ≤ 90) from propext (by omega), h1, h2, h3, h4, h5]
 all_goals simp
 all_goals omega
theorem dig_at (s : ByteArray) (i : Nat) (h : i < s.size) (b : Bool) (e : isDig (s.data.toList.getD i 0) = b) : impl_isDigit.f (bt s (i : Int)) = some b := by rw [bt_get s i h, dig_f, e]
theorem let_at (s : ByteArray) (i : Nat) (h : i < s.size) (b : Bool) (e : isLet (s.data.toList.getD i 0) = b) : impl_isLetter.f (bt s (i : Int)) = some b := by rw [bt_get s i h, let_f, e]
end Go.Proofs.YtackifpnpkbddaaGreatDoorScan
