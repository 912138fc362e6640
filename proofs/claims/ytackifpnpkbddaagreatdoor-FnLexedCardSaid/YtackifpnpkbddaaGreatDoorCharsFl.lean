/- Proved: the reference's reading of a string's characters tells the string valid just where the library's ValidString does, and then hands back the runes, one by one. No conditions but the string's size. -/
import Derived.Test.YtackifpnpkbddaaGreatDoorQFnLexedx0
import Derived.Test.YtackifpnpkbddaaGreatDoorQFnLexedx1
import Derived.Test.YtackifpnpkbddaaGreatDoorQFnLexedx2
import Derived.Test.YtackifpnpkbddaaGreatDoorQFnLexedx3
import Derived.Test.YtackifpnpkbddaaGreatDoorQFnLexedx4
import Derived.Test.YtackifpnpkbddaaGreatDoorQFnLexedx5
import Derived.Test.YtackifpnpkbddaaGreatDoorQFnLexedx6
import Derived.Lib.ValidLaws
import Derived.Lib.TrimUEq
import Derived.Lib.RuneCount
namespace Go.Proofs.YtackifpnpkbddaaGreatDoor.CharsFl
open Go.RowKit Go.Lib Go.Proofs.YtackifpnpkbddaaGreatDoor.QFnLexed Go.Proofs.YtackifpnpkbddaaGreatDoorW.PrintWords Go.Proofs.YtackifpnpkbddaaGreatDoorW.PrintLast

theorem w64 (n : Int) (h1 : -9223372036854775808 ≤ n) (h2 : n ≤ 9223372036854775807) : wrap64 n = n := by
 unfold wrap64; omega

/-- A byte as a number. -/
def g (s : ByteArray) (i : Nat) : Nat := (s.get! i).toNat

theorem g_lt (s : ByteArray) (i : Nat) : g s i < 256 := UInt8.toNat_lt _

theorem bt_g (s : ByteArray) (i : Nat) : bt s (i : Int) = (g s i : Int) := by
 unfold bt g
 rw [Int.toNat_natCast]
 by_cases h : i < s.size
 ·rw [dif_pos h]
  congr 2
  cases s with
  | mk d => exact (getElem!_pos d i h).symm
 ·rw [dif_neg h]
  have : s.get! i = 0 := by
   cases s with
   | mk d => exact getElem!_neg d i h
  rw [this]; rfl

theorem bt_at' (s : ByteArray) (i : Int) (j : Nat) (h : i = j) : bt s i = (g s j : Int) := by rw [h]; exact bt_g s j

/-- The runes of a text, one by one. -/
def runesGo : Nat → List UInt8 → List Int
 | 0, _ => []
 | n + 1, l => if l = [] then [] else ((decodeL l).1 : Int) :: runesGo n (l.drop (decodeL l).2)

theorem runesGo_fuel : ∀ (n m : Nat) (l : List UInt8), l.length ≤ n → l.length ≤ m → runesGo n l = runesGo m l
 | 0, m, l, hn, _ => by
  have : l = [] := List.eq_nil_of_length_eq_zero (by omega)
  subst this
  cases m <;> rfl
 | n + 1, 0, l, _, hm => by
  have : l = [] := List.eq_nil_of_length_eq_zero (by omega)
  subst this
  rfl
 | n + 1, m + 1, l, hn, hm => by
  unfold runesGo
  by_cases hne : l = []
  ·simp [hne]
  ·have hw := decodeL_width l
   have hl : 0 < l.length := List.length_pos_iff.2 hne
   rw [if_neg hne, if_neg hne, runesGo_fuel n m (l.drop (decodeL l).2) (by rw [List.length_drop]; omega) (by rw [List.length_drop]; omega)]

def runes (l : List UInt8) : List Int := runesGo l.length l

theorem runes_nil : runes [] = [] := rfl

theorem runes_step (l : List UInt8) (hne : l ≠ []) : runes l = ((decodeL l).1 : Int) :: runes (l.drop (decodeL l).2) := by
 have hl : 0 < l.length := List.length_pos_iff.2 hne
 have hw := decodeL_width l
 obtain ⟨n, hn⟩ : ∃ n, l.length = n + 1 := ⟨l.length - 1, by omega⟩
 unfold runes
 rw [hn]
 show (if l = [] then [] else _) = _
 rw [if_neg hne, runesGo_fuel n (l.drop (decodeL l).2).length _ (by rw [List.length_drop]; omega) (Nat.le_refl _)]

theorem runes_count (s : ByteArray) : ∀ (f p : Nat), s.size ≤ p + f → runeCountFrom s f p = (runes (s.data.toList.drop p)).length
 | 0, p, h => by
  have : s.data.toList.drop p = [] := List.drop_eq_nil_of_le (by simpa using h)
  rw [this]; rfl
 | f + 1, p, h => by
  unfold runeCountFrom
  by_cases hp : p < s.size
  ·have hne : s.data.toList.drop p ≠ [] := by
    intro e
    have := congrArg List.length e
    rw [List.length_drop] at this
    have hz : s.data.toList.length = s.size := by simp
    simp only [List.length_nil] at this
    omega
   have hw := decode_width_pos s p hp
   rw [if_pos hp, runes_step _ hne, decodeL_drop, List.length_cons, runes_count s f _ (by omega), List.drop_drop]
   omega
  ·have : s.data.toList.drop p = [] := List.drop_eq_nil_of_le (by simp; omega)
   rw [if_neg hp, this]; rfl

theorem runeCount_runes (s : ByteArray) : runeCount s = (runes s.data.toList).length := by
 unfold runeCount
 rw [runes_count s _ 0 (by omega), List.drop_zero]

/-! ### the decoder, a class of lead bytes at a time -/
theorem dn1 (n b0 b1 b2 b3 : Nat) (h : b0 < 128) : decodeN n b0 b1 b2 b3 = (b0, 1) := by simp [decodeN, h]
set_option maxRecDepth 100000 in
theorem dn_bad (n b0 b1 b2 b3 : Nat) (h : 128 ≤ b0 ∧ b0 < 194 ∨ 245 ≤ b0) (hb : b0 < 256) : decodeN n b0 b1 b2 b3 = (65533, 1) := by
 unfold decodeN
 repeat' split
 all_goals first | (exfalso; omega) | rfl
set_option maxRecDepth 100000 in
theorem dn2 (n b0 b1 b2 b3 : Nat) (h : 194 ≤ b0 ∧ b0 < 224) (h1 : b1 < 256) : decodeN n b0 b1 b2 b3 = if 1 < n ∧ 128 ≤ b1 ∧ b1 ≤ 191 then ((b0 - 192) * 64 + b1 - 128, 2) else (65533, 1) := by
 unfold decodeN
 repeat' split
 all_goals first | (exfalso; omega) | (apply Prod.ext <;> simp only <;> omega)
set_option maxRecDepth 100000 in
theorem dn3 (n b0 b1 b2 b3 : Nat) (h : 224 ≤ b0 ∧ b0 < 240) (h1 : b1 < 256) (h2 : b2 < 256) : decodeN n b0 b1 b2 b3 =
  if 2 < n ∧ (128 ≤ b1 ∧ b1 ≤ 191) ∧ (128 ≤ b2 ∧ b2 ≤ 191) ∧ 2048 ≤ ((b0 - 224) * 64 + b1 - 128) * 64 + b2 - 128 ∧ (((b0 - 224) * 64 + b1 - 128) * 64 + b2 - 128 < 55296 ∨ 57344 ≤ ((b0 - 224) * 64 + b1 - 128) * 64 + b2 - 128)
  then (((b0 - 224) * 64 + b1 - 128) * 64 + b2 - 128, 3) else (65533, 1) := by
 unfold decodeN
 repeat' split
 all_goals first | (exfalso; omega) | (apply Prod.ext <;> simp only <;> omega)
set_option maxRecDepth 100000 in
theorem dn4 (n b0 b1 b2 b3 : Nat) (h : 240 ≤ b0 ∧ b0 < 245) (h1 : b1 < 256) (h2 : b2 < 256) (h3 : b3 < 256) : decodeN n b0 b1 b2 b3 =
  if 3 < n ∧ (128 ≤ b1 ∧ b1 ≤ 191) ∧ (128 ≤ b2 ∧ b2 ≤ 191) ∧ (128 ≤ b3 ∧ b3 ≤ 191) ∧ 65536 ≤ (((b0 - 240) * 64 + b1 - 128) * 64 + b2 - 128) * 64 + b3 - 128 ∧ (((b0 - 240) * 64 + b1 - 128) * 64 + b2 - 128) * 64 + b3 - 128 ≤ 1114111
  then ((((b0 - 240) * 64 + b1 - 128) * 64 + b2 - 128) * 64 + b3 - 128, 4) else (65533, 1) := by
 unfold decodeN
 repeat' split
 all_goals first | (exfalso; omega) | (apply Prod.ext <;> simp only <;> omega)

/-! ### the loops -/
/-- It is answered, with enough rounds. -/
def Told {α : Type} (f : Nat → Option α) (r : α) : Prop := ∃ k, f k = some r

theorem l1_step (k : Nat) (s : ByteArray) (acc : List Int) (p i n : Nat) (c least : Int) (hi : i ≤ n) (hn : n ≤ 3) (hp : p + i < s.size) (hs : s.size ≤ 140737488351232) (c0 : 0 ≤ c) (c1 : c ≤ 1000000) :
  spec_l01Chars.l1 (k + 1) s acc p c n least i = if g s (p + i) < 128 then some ([], false) else if 191 < g s (p + i) then some ([], false) else spec_l01Chars.l1 k s acc p (c * 64 + g s (p + i) - 128) n least ((i + 1 : Nat) : Int) := by
 have hb := g_lt s (p + i)
 simp only [spec_l01Chars.l1]
 rw [if_pos (by omega : (i : Int) ≤ (n : Int)), w64 ((p : Int) + i) (by omega) (by omega), if_pos (by omega : 0 ≤ (p : Int) + (i : Int)), if_pos (by omega : (p : Int) + (i : Int) < (s.size : Int)), bt_at' s ((p : Int) + i) (p + i) (by omega),
  w64 ((g s (p + i) : Int)) (by omega) (by omega)]
 by_cases h1 : g s (p + i) < 128
 ·rw [if_pos h1, if_pos (by omega)]
 ·rw [if_neg h1, if_neg (by omega)]
  by_cases h2 : 191 < g s (p + i)
  ·rw [if_pos h2, if_pos (by omega)]
  ·rw [if_neg h2, if_neg (by omega), w64 (c * 64) (by omega) (by omega), w64 (c * 64 + (g s (p + i) : Int)) (by omega) (by omega), w64 (c * 64 + (g s (p + i) : Int) - 128) (by omega) (by omega), w64 ((i : Int) + 1) (by omega) (by omega)]
   rfl

theorem l1_end (k : Nat) (s : ByteArray) (acc : List Int) (p i n : Nat) (c least : Int) (hi : n < i) (hn : n ≤ 3) (hp : p ≤ s.size) (hs : s.size ≤ 1048576) (ha : acc.length ≤ p) :
  spec_l01Chars.l1 (k + 1) s acc p c n least i = if c < least ∨ 1114111 < c ∨ (55296 ≤ c ∧ c ≤ 57343) then some ([], false) else spec_l01Chars.l0 k s (acc ++ [c]) ((p + (n + 1) : Nat) : Int) := by
 simp only [spec_l01Chars.l1]
 rw [if_neg (by omega : ¬ (i : Int) ≤ (n : Int)), w64 ((n : Int) + 1) (by omega) (by omega), w64 ((p : Int) + ((n : Int) + 1)) (by omega) (by omega), show ((p : Int) + ((n : Int) + 1)) = ((p + (n + 1) : Nat) : Int) by omega]
 by_cases h1 : c < least
 ·rw [if_pos h1, if_pos (.inl h1)]
 ·rw [if_neg h1]
  by_cases h2 : c > 1114111
  ·rw [if_pos h2, if_pos (.inr (.inl h2))]
  ·rw [if_neg h2]
   by_cases h3 : c ≥ 55296
   ·rw [if_pos h3]
    by_cases h4 : c ≤ 57343
    ·rw [if_pos h4, if_pos (.inr (.inr ⟨h3, h4⟩))]
    ·rw [if_neg h4, if_pos (by omega : acc.length < 17592186044416), if_neg (by omega)]
   ·rw [if_neg h3, if_pos (by omega : acc.length < 17592186044416), if_neg (by omega)]

theorem j3_step (k : Nat) (s : ByteArray) (acc : List Int) (p n : Nat) (c least : Int) (hn : n ≤ 3) (hp : p ≤ s.size) (hs : s.size ≤ 1048576) :
  spec_l01Chars.j3 (k + 1) s acc p c n least = if s.size ≤ p + n then some ([], false) else spec_l01Chars.l1 k s acc p c n least ((1 : Nat) : Int) := by
 simp only [spec_l01Chars.j3]
 rw [w64 ((p : Int) + n) (by omega) (by omega)]
 by_cases h : s.size ≤ p + n
 ·rw [if_pos (by omega), if_pos h]
 ·rw [if_neg (by omega), if_neg h]
  rfl

/-- One character: what follows, or the end. -/
theorem l0_step (s : ByteArray) (acc : List Int) (p : Nat) (hp : p < s.size) (hs : s.size ≤ 1048576) (ha : acc.length ≤ p) (r : List Int × Bool)
  (H : if (Utf8.decode s p) = (65533, 1) then r = ([], false) else Told (fun k => spec_l01Chars.l0 k s (acc ++ [((Utf8.decode s p).1 : Int)]) ((p + (Utf8.decode s p).2 : Nat) : Int)) r) :
  Told (fun k => spec_l01Chars.l0 k s acc p) r := by
 have hb0 := g_lt s p
 have hb1 := g_lt s (p + 1)
 have hb2 := g_lt s (p + 2)
 have hb3 := g_lt s (p + 3)
 have hd : Utf8.decode s p = decodeN (s.size - p) (g s p) (g s (p + 1)) (g s (p + 2)) (g s (p + 3)) := decode_at s p
 rw [hd] at H
 have head : ∀ k, spec_l01Chars.l0 (k + 1) s acc p = if g s p < 128 then spec_l01Chars.l0 k s (acc ++ [(g s p : Int)]) ((p + 1 : Nat) : Int) else if 194 ≤ g s p then spec_l01Chars.j1 k s acc p (g s p) (decide ((g s p : Int) < 224)) else spec_l01Chars.j1 k s acc p (g s p) false := by
  intro k
  simp only [spec_l01Chars.l0]
  rw [if_pos (by omega : (p : Int) < (s.size : Int)), if_pos (by omega : 0 ≤ (p : Int)), bt_g, w64 ((g s p : Int)) (by omega) (by omega), w64 ((p : Int) + 1) (by omega) (by omega)]
  by_cases h1 : g s p < 128
  ·rw [if_pos h1, if_pos (by omega), if_pos (by omega)]; rfl
  ·rw [if_neg h1, if_neg (by omega)]
   by_cases h2 : 194 ≤ g s p
   ·rw [if_pos h2, if_pos (by omega)]
   ·rw [if_neg h2, if_neg (by omega)]
 by_cases h1 : g s p < 128
 ·rw [dn1 _ _ _ _ _ h1, if_neg (by intro e; simp only [Prod.mk.injEq] at e; omega)] at H
  obtain ⟨k, hk⟩ := H
  exact ⟨k + 1, by show spec_l01Chars.l0 (k + 1) s acc p = _; rw [head, if_pos h1]; exact hk⟩
 by_cases h2 : 194 ≤ g s p ∧ g s p < 224
 ·rw [dn2 _ _ _ _ _ h2 hb1] at H
  by_cases hv : 1 < s.size - p ∧ 128 ≤ g s (p + 1) ∧ g s (p + 1) ≤ 191
  ·rw [if_pos hv, if_neg (by intro e; simp only [Prod.mk.injEq] at e; omega)] at H
   obtain ⟨k, hk⟩ := H
   refine ⟨k + 5, ?_⟩
   show spec_l01Chars.l0 (k + 4 + 1) s acc p = _
   rw [head, if_neg h1, if_pos h2.1, decide_eq_true (by omega)]
   simp only [spec_l01Chars.j1, if_true]
   rw [w64 ((g s p : Int) - 192) (by omega) (by omega)]
   rw [show (1 : Int) = ((1 : Nat) : Int) from rfl, j3_step (k + 2) s acc p 1 _ _ (by omega) (by omega) hs, if_neg (by omega), l1_step (k + 1) s acc p 1 1 _ _ (by omega) (by omega) (by omega) (by omega) (by omega) (by omega),
    if_neg (by omega), if_neg (by omega), l1_end k s acc p (1 + 1) 1 _ _ (by omega) (by omega) (by omega) hs ha, if_neg (by omega)]
   rw [show ((g s p : Int) - 192) * 64 + (g s (p + 1) : Int) - 128 = (((g s p - 192) * 64 + g s (p + 1) - 128 : Nat) : Int) by omega]
   exact hk
  ·rw [if_neg hv, if_pos rfl] at H
   subst H
   refine ⟨5, ?_⟩
   show spec_l01Chars.l0 (4 + 1) s acc p = _
   rw [head, if_neg h1, if_pos h2.1, decide_eq_true (by omega)]
   simp only [spec_l01Chars.j1, if_true]
   rw [show (1 : Int) = ((1 : Nat) : Int) from rfl, j3_step 2 s acc p 1 _ _ (by omega) (by omega) hs]
   by_cases h5 : s.size ≤ p + 1
   ·rw [if_pos h5]
   ·rw [if_neg h5, w64 ((g s p : Int) - 192) (by omega) (by omega), l1_step 1 s acc p 1 1 _ _ (by omega) (by omega) (by omega) (by omega) (by omega) (by omega)]
    by_cases h6 : g s (p + 1) < 128
    ·rw [if_pos h6]
    ·rw [if_neg h6, if_pos (by omega)]
 by_cases h3 : 224 ≤ g s p ∧ g s p < 240
 ·rw [dn3 _ _ _ _ _ h3 hb1 hb2] at H
  have start : ∀ k, spec_l01Chars.l0 (k + 4) s acc p = if s.size ≤ p + 2 then some ([], false) else spec_l01Chars.l1 k s acc p ((g s p : Int) - 224) ((2 : Nat) : Int) 2048 ((1 : Nat) : Int) := by
   intro k
   rw [head, if_neg h1, if_pos (by omega), decide_eq_false (by omega)]
   simp only [spec_l01Chars.j1, Bool.false_eq_true, if_false]
   rw [if_pos (by omega), decide_eq_true (by omega)]
   simp only [spec_l01Chars.j2, if_true]
   rw [w64 ((g s p : Int) - 224) (by omega) (by omega), show (2 : Int) = ((2 : Nat) : Int) from rfl, j3_step k s acc p 2 _ _ (by omega) (by omega) hs]
  by_cases hv : 2 < s.size - p ∧ (128 ≤ g s (p + 1) ∧ g s (p + 1) ≤ 191) ∧ (128 ≤ g s (p + 2) ∧ g s (p + 2) ≤ 191) ∧ 2048 ≤ ((g s p - 224) * 64 + g s (p + 1) - 128) * 64 + g s (p + 2) - 128 ∧ (((g s p - 224) * 64 + g s (p + 1) - 128) * 64 + g s (p + 2) - 128 < 55296 ∨ 57344 ≤ ((g s p - 224) * 64 + g s (p + 1) - 128) * 64 + g s (p + 2) - 128)
  ·rw [if_pos hv, if_neg (by intro e; simp only [Prod.mk.injEq] at e; omega)] at H
   obtain ⟨k, hk⟩ := H
   refine ⟨k + 3 + 4, ?_⟩
   show spec_l01Chars.l0 (k + 3 + 4) s acc p = _
   rw [start, if_neg (by omega), l1_step (k + 2) s acc p 1 2 _ _ (by omega) (by omega) (by omega) (by omega) (by omega) (by omega), if_neg (by omega), if_neg (by omega),
    l1_step (k + 1) s acc p 2 2 _ _ (by omega) (by omega) (by omega) (by omega) (by omega) (by omega), if_neg (by omega), if_neg (by omega),
    l1_end k s acc p (2 + 1) 2 _ _ (by omega) (by omega) (by omega) hs ha, if_neg (by omega)]
   rw [show ((g s p : Int) - 224) * 64 + (g s (p + 1) : Int) - 128 = (((g s p - 224) * 64 + g s (p + 1) - 128 : Nat) : Int) by omega, show ((((g s p - 224) * 64 + g s (p + 1) - 128 : Nat) : Int)) * 64 + (g s (p + 2) : Int) - 128 = ((((g s p - 224) * 64 + g s (p + 1) - 128) * 64 + g s (p + 2) - 128 : Nat) : Int) by omega]
   exact hk
  ·rw [if_neg hv, if_pos rfl] at H
   subst H
   refine ⟨3 + 4, ?_⟩
   show spec_l01Chars.l0 (3 + 4) s acc p = _
   rw [start]
   by_cases h5 : s.size ≤ p + 2
   ·rw [if_pos h5]
   rw [if_neg h5, l1_step 2 s acc p 1 2 _ _ (by omega) (by omega) (by omega) (by omega) (by omega) (by omega)]
   by_cases h6 : g s (p + 1) < 128
   ·rw [if_pos h6]
   rw [if_neg h6]
   by_cases h7 : 191 < g s (p + 1)
   ·rw [if_pos h7]
   rw [if_neg h7, l1_step 1 s acc p 2 2 _ _ (by omega) (by omega) (by omega) (by omega) (by omega) (by omega)]
   by_cases h8 : g s (p + 2) < 128
   ·rw [if_pos h8]
   rw [if_neg h8]
   by_cases h9 : 191 < g s (p + 2)
   ·rw [if_pos h9]
   rw [if_neg h9, l1_end 0 s acc p (2 + 1) 2 _ _ (by omega) (by omega) (by omega) hs ha, if_pos (by omega)]
 by_cases h4 : 240 ≤ g s p ∧ g s p < 245
 ·rw [dn4 _ _ _ _ _ h4 hb1 hb2 hb3] at H
  have start : ∀ k, spec_l01Chars.l0 (k + 4) s acc p = if s.size ≤ p + 3 then some ([], false) else spec_l01Chars.l1 k s acc p ((g s p : Int) - 240) ((3 : Nat) : Int) 65536 ((1 : Nat) : Int) := by
   intro k
   rw [head, if_neg h1, if_pos (by omega), decide_eq_false (by omega)]
   simp only [spec_l01Chars.j1, Bool.false_eq_true, if_false]
   rw [if_pos (by omega), decide_eq_false (by omega)]
   simp only [spec_l01Chars.j2, Bool.false_eq_true, if_false]
   rw [if_pos (by omega), if_pos (by omega), w64 ((g s p : Int) - 240) (by omega) (by omega), show (3 : Int) = ((3 : Nat) : Int) from rfl, j3_step k s acc p 3 _ _ (by omega) (by omega) hs]
  by_cases hv : 3 < s.size - p ∧ (128 ≤ g s (p + 1) ∧ g s (p + 1) ≤ 191) ∧ (128 ≤ g s (p + 2) ∧ g s (p + 2) ≤ 191) ∧ (128 ≤ g s (p + 3) ∧ g s (p + 3) ≤ 191) ∧ 65536 ≤ (((g s p - 240) * 64 + g s (p + 1) - 128) * 64 + g s (p + 2) - 128) * 64 + g s (p + 3) - 128 ∧ (((g s p - 240) * 64 + g s (p + 1) - 128) * 64 + g s (p + 2) - 128) * 64 + g s (p + 3) - 128 ≤ 1114111
  ·rw [if_pos hv, if_neg (by intro e; simp only [Prod.mk.injEq] at e; omega)] at H
   obtain ⟨k, hk⟩ := H
   refine ⟨k + 4 + 4, ?_⟩
   show spec_l01Chars.l0 (k + 4 + 4) s acc p = _
   rw [start, if_neg (by omega), l1_step (k + 3) s acc p 1 3 _ _ (by omega) (by omega) (by omega) (by omega) (by omega) (by omega), if_neg (by omega), if_neg (by omega),
    l1_step (k + 2) s acc p 2 3 _ _ (by omega) (by omega) (by omega) (by omega) (by omega) (by omega), if_neg (by omega), if_neg (by omega),
    l1_step (k + 1) s acc p 3 3 _ _ (by omega) (by omega) (by omega) (by omega) (by omega) (by omega), if_neg (by omega), if_neg (by omega),
    l1_end k s acc p (3 + 1) 3 _ _ (by omega) (by omega) (by omega) hs ha, if_neg (by omega)]
   rw [show ((g s p : Int) - 240) * 64 + (g s (p + 1) : Int) - 128 = (((g s p - 240) * 64 + g s (p + 1) - 128 : Nat) : Int) by omega, show ((((g s p - 240) * 64 + g s (p + 1) - 128 : Nat) : Int)) * 64 + (g s (p + 2) : Int) - 128 = ((((g s p - 240) * 64 + g s (p + 1) - 128) * 64 + g s (p + 2) - 128 : Nat) : Int) by omega,
    show (((((g s p - 240) * 64 + g s (p + 1) - 128) * 64 + g s (p + 2) - 128 : Nat) : Int)) * 64 + (g s (p + 3) : Int) - 128 = (((((g s p - 240) * 64 + g s (p + 1) - 128) * 64 + g s (p + 2) - 128) * 64 + g s (p + 3) - 128 : Nat) : Int) by omega]
   exact hk
  ·rw [if_neg hv, if_pos rfl] at H
   subst H
   refine ⟨4 + 4, ?_⟩
   show spec_l01Chars.l0 (4 + 4) s acc p = _
   rw [start]
   by_cases h5 : s.size ≤ p + 3
   ·rw [if_pos h5]
   rw [if_neg h5, l1_step 3 s acc p 1 3 _ _ (by omega) (by omega) (by omega) (by omega) (by omega) (by omega)]
   by_cases h6 : g s (p + 1) < 128
   ·rw [if_pos h6]
   rw [if_neg h6]
   by_cases h7 : 191 < g s (p + 1)
   ·rw [if_pos h7]
   rw [if_neg h7, l1_step 2 s acc p 2 3 _ _ (by omega) (by omega) (by omega) (by omega) (by omega) (by omega)]
   by_cases h8 : g s (p + 2) < 128
   ·rw [if_pos h8]
   rw [if_neg h8]
   by_cases h9 : 191 < g s (p + 2)
   ·rw [if_pos h9]
   rw [if_neg h9, l1_step 1 s acc p 3 3 _ _ (by omega) (by omega) (by omega) (by omega) (by omega) (by omega)]
   by_cases h10 : g s (p + 3) < 128
   ·rw [if_pos h10]
   rw [if_neg h10]
   by_cases h11 : 191 < g s (p + 3)
   ·rw [if_pos h11]
   rw [if_neg h11, l1_end 0 s acc p (3 + 1) 3 _ _ (by omega) (by omega) (by omega) hs ha, if_pos (by omega)]
 ·rw [dn_bad _ _ _ _ _ (by omega) hb0, if_pos rfl] at H
  subst H
  refine ⟨3, ?_⟩
  show spec_l01Chars.l0 (2 + 1) s acc p = _
  rw [head, if_neg h1]
  by_cases h5 : 194 ≤ g s p
  ·rw [if_pos h5, decide_eq_false (by omega)]
   simp only [spec_l01Chars.j1, Bool.false_eq_true, if_false]
   rw [if_pos (by omega), decide_eq_false (by omega)]
   simp only [spec_l01Chars.j2, Bool.false_eq_true, if_false]
   rw [if_pos (by omega), if_neg (by omega)]
  ·rw [if_neg h5]
   simp only [spec_l01Chars.j1, Bool.false_eq_true, if_false]
   rw [if_neg (by omega)]
   simp only [spec_l01Chars.j2, Bool.false_eq_true, if_false]
   rw [if_neg (by omega)]

theorem chars_from (s : ByteArray) (hs : s.size ≤ 1048576) (n : Nat) : ∀ (p : Nat) (acc : List Int), s.size - p ≤ n → p ≤ s.size → acc.length ≤ p →
  Told (fun k => spec_l01Chars.l0 k s acc p) (if validD (s.data.toList.drop p) then acc ++ runes (s.data.toList.drop p) else [], validD (s.data.toList.drop p)) := by
 induction n with
 | zero =>
  intro p acc hn hp ha
  have hz : s.data.toList.drop p = [] := List.drop_eq_nil_of_le (by simp; omega)
  rw [hz]
  refine ⟨1, ?_⟩
  show spec_l01Chars.l0 (0 + 1) s acc p = _
  simp only [spec_l01Chars.l0]
  rw [if_neg (by omega)]
  simp [validD_nil, runes_nil]
 | succ n ih =>
  intro p acc hn hp ha
  by_cases hlt : p < s.size
  ·have hne : s.data.toList.drop p ≠ [] := by
    intro e
    have := congrArg List.length e
    rw [List.length_drop] at this
    have hz : s.data.toList.length = s.size := by simp
    simp only [List.length_nil] at this
    omega
   refine l0_step s acc p hlt hs ha _ ?_
   have hv := validD_step _ hne
   rw [decodeL_drop] at hv
   have hw := decode_width_pos s p hlt
   by_cases hd : Utf8.decode s p = (65533, 1)
   ·rw [if_pos hd]
    rw [if_pos ⟨congrArg Prod.fst hd, congrArg Prod.snd hd⟩] at hv
    rw [hv]
    rfl
   ·rw [if_neg hd]
    rw [if_neg (fun h => hd (Prod.ext h.1 h.2)), List.drop_drop] at hv
    rw [hv, runes_step _ hne, decodeL_drop, List.drop_drop]
    have hle : p + (Utf8.decode s p).2 ≤ s.size := by
     rw [decode_at] at hd ⊢
     have hb0 := g_lt s p
     have hb1 := g_lt s (p + 1)
     have hb2 := g_lt s (p + 2)
     have hb3 := g_lt s (p + 3)
     change ¬ decodeN (s.size - p) (g s p) (g s (p + 1)) (g s (p + 2)) (g s (p + 3)) = _ at hd
     change p + (decodeN (s.size - p) (g s p) (g s (p + 1)) (g s (p + 2)) (g s (p + 3))).2 ≤ _
     by_cases h1 : g s p < 128
     ·rw [dn1 _ _ _ _ _ h1]; show p + 1 ≤ _; omega
     by_cases h2 : 194 ≤ g s p ∧ g s p < 224
     ·rw [dn2 _ _ _ _ _ h2 hb1] at hd ⊢
      split at hd
      ·rename_i hc; rw [if_pos hc]; show p + 2 ≤ _; omega
      ·exact absurd rfl hd
     by_cases h3 : 224 ≤ g s p ∧ g s p < 240
     ·rw [dn3 _ _ _ _ _ h3 hb1 hb2] at hd ⊢
      split at hd
      ·rename_i hc; rw [if_pos hc]; show p + 3 ≤ _; omega
      ·exact absurd rfl hd
     by_cases h4 : 240 ≤ g s p ∧ g s p < 245
     ·rw [dn4 _ _ _ _ _ h4 hb1 hb2 hb3] at hd ⊢
      split at hd
      ·rename_i hc; rw [if_pos hc]; show p + 4 ≤ _; omega
      ·exact absurd rfl hd
     ·exact absurd (dn_bad _ _ _ _ _ (by omega) hb0) hd
    have := ih (p + (Utf8.decode s p).2) (acc ++ [((Utf8.decode s p).1 : Int)]) (by omega) hle (by rw [List.length_append, List.length_singleton]; omega)
    rwa [List.append_assoc, List.singleton_append] at this
  ·have hz : s.data.toList.drop p = [] := List.drop_eq_nil_of_le (by simp; omega)
   rw [hz]
   refine ⟨1, ?_⟩
   show spec_l01Chars.l0 (0 + 1) s acc p = _
   simp only [spec_l01Chars.l0]
   rw [if_neg (by omega)]
   simp [validD_nil, runes_nil]

/-- What the reference reads of a string. -/
theorem chars_told (s : ByteArray) (hs : s.size ≤ 1048576) : ∃ k, spec_l01Chars.f k s = some (if validD s.data.toList then runes s.data.toList else [], validD s.data.toList) := by
 have h := chars_from s hs s.size 0 [] (by omega) (by omega) (by simp)
 rw [List.drop_zero, List.nil_append] at h
 exact h

/-- At most four bytes a character. -/
theorem runes_bytes : ∀ (n : Nat) (l : List UInt8), l.length ≤ n → l.length ≤ 4 * (runes l).length
 | 0, l, h => by omega
 | n + 1, l, h => by
  by_cases hne : l = []
  ·subst hne; simp
  ·have hw := decodeL_width l
   have hl : 0 < l.length := List.length_pos_iff.2 hne
   have h4 : (decodeL l).2 ≤ 4 := by
    rw [decodeL_N]
    unfold decodeN
    repeat' split
    all_goals simp
   have ih := runes_bytes n (l.drop (decodeL l).2) (by rw [List.length_drop]; omega)
   rw [List.length_drop] at ih
   rw [runes_step l hne, List.length_cons]
   omega

end Go.Proofs.YtackifpnpkbddaaGreatDoor.CharsFl
