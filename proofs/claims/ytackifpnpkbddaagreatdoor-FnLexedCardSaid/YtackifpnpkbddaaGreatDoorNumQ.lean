/- Proved: what spec.l02Number answers at a digit. No other conditions but the text's size. -/
import Derived.Test.YtackifpnpkbddaaGreatDoorNumP
namespace Go.Proofs.YtackifpnpkbddaaGreatDoorScan
open Go Go.RowKit Go.Proofs.YtackifpnpkbddaaGreatDoorW.PrintWords Go.Proofs.YtackifpnpkbddaaGreatDoorW.PrintLast Go.Proofs.YtackifpnpkbddaaGreatDoorW.PrintMore Go.Proofs.YtackifpnpkbddaaGreatDoor.QNum
set_option linter.unusedVariables false
set_option linter.unusedSimpArgs false
/-- A token at a place of the text, as the reference tells it. -/
def conv (at_ : Nat) (r : R) : Int × ByteArray × Int × Int × Int × Int :=
 if r.2.2.2.1 = 0 then (r.1, ⟨r.2.1.toArray⟩, (at_ : Int), (at_ : Int) + r.2.2.1, 0, 0) else (0, ⟨#[]⟩, 0, 0, r.2.2.2.1, (at_ : Int) + r.2.2.2.2)
theorem sdigit_at (s : ByteArray) (L : B) (hL : s.data.toList = L) (i : Nat) (h : i < L.length) (b : Bool) (e : isDig (L.getD i 0) = b) (w : World) : Calls Tryz.prog 46 #[.int .u8 (bt s (i : Int))] w fun e w' => e = .returned (.bool b) ∧ Below w.heap.size w w' := by
 subst hL
 exact (spec_l02Digit.calls _ b w (by rw [bt_get s i h, sdig_f, e])).mono fun e w' ⟨h1, nd, h2⟩ => ⟨h1, by rw [h2]; exact (by with_reducible apply pw_below_drewN; exact Below.refl _ _)⟩
theorem sletter_at (s : ByteArray) (L : B) (hL : s.data.toList = L) (i : Nat) (h : i < L.length) (b : Bool) (e : isLet (L.getD i 0) = b) (w : World) : Calls Tryz.prog 45 #[.int .u8 (bt s (i : Int))] w fun e w' => e = .returned (.bool b) ∧ Below w.heap.size w w' := by
 subst hL
 exact (spec_l02Letter.calls _ b w (by rw [bt_get s i h, slet_f, e])).mono fun e w' ⟨h1, nd, h2⟩ => ⟨h1, by rw [h2]; exact (by with_reducible apply pw_below_drewN; exact Below.refl _ _)⟩
theorem run16 (s : ByteArray) (L : B) (hL : s.data.toList = L) (hs : s.size ≤ 1048576) (j m : Nat) (h : j ≤ L.length) (hm : cnt isDig (L.drop j) = m) (w : World) : Calls Tryz.prog 61 #[.string s, .int .i64 (j : Int), .int .i64 1] w fun e w' => e = .returned (.int .i64 (m : Int)) ∧ Below w.heap.size w w' := by
 obtain ⟨k, hk⟩ := run_told hL (by rw [← size_L hL]; exact hs) 1 isDig (.inr ⟨rfl, rfl⟩) j h
 subst hm
 exact (spec_l02Run.calls k s j 1 _ w (hk k (Nat.le_refl _))).mono fun e w' ⟨h1, nd, h2⟩ => ⟨h1, by rw [h2]; exact (by with_reducible apply pw_below_drewN; exact Below.refl _ _)⟩
theorem nought31 (t : ByteArray) (h : t.data.toList ≠ []) (w : World) : Calls Tryz.prog 62 #[.string t] w fun e w' => ∃ r : ByteArray, e = .returned (.string r) ∧ r.data.toList = whole t.data.toList ∧ Below w.heap.size w w' := by
 obtain ⟨k, r, h1, h2⟩ := noughts_told t h
 exact (spec_l02Noughts.calls k t r w h1).mono fun e w' ⟨h3, nd, h4⟩ => ⟨r, h3, h2, by rw [h4]; exact (by with_reducible apply pw_below_drewN; exact Below.refl _ _)⟩
theorem digits32 (t : ByteArray) (l : B) (ht : t.data.toList = l) (hd : ∀ c ∈ l, isDig c = true) (h0 : l ≠ []) (hl : l.length ≤ 19) (w : World) : Calls Tryz.prog 63 #[.string t, .int .i64 19] w fun e w' => e = .returned (.tuple #[.int .u64 ((val 0 l : Nat) : Int), .bool true]) ∧ Below w.heap.size w w' := by
 obtain ⟨k, hk⟩ := digits_told ht hd h0 hl
 exact (spec_l01Digits.calls k t 19 _ _ w hk).mono fun e w' ⟨h3, nd, h4⟩ => ⟨h3, by rw [h4]; exact (by with_reducible apply pw_below_drewN; exact Below.refl _ _)⟩
/-- A numeral without noughts ahead is at least ten to its length. -/
theorem val_big : ∀ (r : B) (a : Nat), a * 10 ^ r.length ≤ val a r
 | [], a => by unfold val; simp
 | c :: r, a => by
  have ih := val_big r (a * 10 + (c.toNat - 48))
  unfold val
  have h2 := Nat.mul_le_mul_right (10 ^ r.length) (show a * 10 ≤ a * 10 + (c.toNat - 48) by omega)
  rw [List.length_cons, Nat.pow_succ, Nat.mul_comm (10 ^ r.length) 10, ← Nat.mul_assoc]
  omega
theorem whole_big {l : B} (hd : ∀ c ∈ l, isDig c = true) (h : 19 < (whole l).length) : 9223372036854775808 ≤ val 0 (whole l) := by
 have hd2 := whole_dig hd
 cases e : whole l with
 | nil => rw [e] at h; simp at h
 | cons c r =>
  rw [e] at h hd2
  have hc : 48 ≤ c.toNat ∧ c.toNat ≤ 57 := of_decide_eq_true (hd2 c List.mem_cons_self)
  have hne : c ≠ 48 := by
   intro h3
   unfold whole at e
   split at e
   ·rw [← (List.cons.inj e).2] at h; simp at h
   ·have h4 := List.head_dropWhile_not (l := l) (fun x : UInt8 => x == 48) (by unfold Lib.trimLeftB at e; intro h5; rw [h5] at e; cases e)
    unfold Lib.trimLeftB at e
    simp only [e, List.head_cons] at h4
    rw [h3] at h4; simp at h4
  have h1 : 1 ≤ c.toNat - 48 := by
   have : c.toNat ≠ 48 := fun h5 => hne (UInt8.toNat_inj.1 h5)
   omega
  have hb := val_big r (0 * 10 + (c.toNat - 48))
  unfold val
  have h6 : 10 ^ 19 ≤ 10 ^ r.length := Nat.pow_le_pow_right (by decide) (by simp only [List.length_cons] at h; omega)
  have h7 : 10 ^ r.length ≤ (0 * 10 + (c.toNat - 48)) * 10 ^ r.length := Nat.le_mul_of_pos_left _ (by omega)
  have h8 : (9223372036854775808 : Nat) ≤ 10 ^ 19 := by decide
  omega
theorem wrapE (a b c : Nat) (h : a + b = c) (hc : c ≤ 4194304) : wrap64 ((a : Int) + (b : Int)) = (c : Int) := by unfold wrap64; omega
theorem dI_t {a b c : Nat} (e : b = c) (h : a < c) : decide ((a : Int) < (b : Int)) = true := decide_eq_true (by omega)
theorem dI_f {a b c : Nat} (e : b = c) (h : ¬ a < c) : decide ((a : Int) < (b : Int)) = false := decide_eq_false (by omega)
theorem dN_t {a b c : Nat} (e : b = c) (h : a < c) : decide (a < b) = true := decide_eq_true (by omega)
theorem dN_f {a b c : Nat} (e : b = c) (h : ¬ a < c) : decide (a < b) = false := decide_eq_false (by omega)
theorem pI_t {a b c : Nat} (e : b = c) (h : a < c) : ((a : Int) < (b : Int)) = True := eq_true (by omega)
theorem pN_t {a b c : Nat} (e : b = c) (h : a < c) : (a < b) = True := eq_true (by omega)
theorem pN_f {a b c : Nat} (e : b = c) (h : ¬ a < c) : (a < b) = False := eq_false (by omega)
theorem pI_0 (a : Nat) : ((0 : Int) ≤ (a : Int)) = True := eq_true (by omega)
theorem e2_len {j m e2 len : Nat} (h1 : j + m = e2) (h2 : m ≤ len - j) (h3 : j < len) : e2 ≤ len := by omega
theorem iI_le {a b c : Nat} (h : a ≤ c) (e : b = c) : ((a : Int) ≤ (b : Int)) = True := eq_true (by omega)
theorem iN_le {a b c : Nat} (h : a ≤ c) (e : b = c) : (a ≤ b) = True := eq_true (by omega)
theorem en_e2 {en j m e2 : Nat} (h1 : en + 1 = j) (h2 : j + m = e2) : en ≤ e2 := by omega
theorem en_y1 {en j m e2 y1 : Nat} (h1 : en + 1 = j) (h2 : j + m = e2) (h3 : 1 + m = y1) : en + y1 = e2 := by omega
theorem y1_le {j m e2 y1 : Nat} (h2 : j + m = e2) (h3 : 1 + m = y1) (h : e2 ≤ 2097154) : y1 ≤ 4194304 := by omega
theorem le_big {a : Nat} (h : a ≤ 2097154) : a ≤ 4194304 := by omega
theorem at_j {at_ i en j : Nat} (h1 : at_ + i = en) (h2 : en + 1 = j) : at_ + (i + 1) = j := by omega
theorem sub_e (en j m e2 : Nat) (h1 : en + 1 = j) (h2 : j + m = e2) : e2 - en = m + 1 := by omega
theorem sum_e (at_ i en j m e2 : Nat) (h0 : at_ + i = en) (h1 : en + 1 = j) (h2 : j + m = e2) : (at_ : Int) + ((i + 1 + m : Nat) : Int) = (e2 : Int) := by omega
theorem len_e (L : List UInt8) (at_ i en j m e2 : Nat) (h0 : at_ + i = en) (h1 : en + 1 = j) (h2 : j + m = e2) : (e2 < L.length ↔ i + 1 + m < (L.drop at_).length) ∧ (L.drop at_).getD (i + 1 + m) 0 = L.getD e2 0 := by
 have h3 : at_ + (i + 1 + m) = e2 := by omega
 constructor
 ·rw [List.length_drop]; omega
 ·simp [List.getD, h3]
theorem ext_take (s : ByteArray) (a b : Nat) : (s.extract a b).data.toList = (s.data.toList.drop a).take (b - a) := by simp
theorem app_toList (W V : ByteArray) : (W ++ V).data.toList = W.data.toList ++ V.data.toList := by simp
theorem getD_drop (L : B) (a i : Nat) : (L.drop a).getD i 0 = L.getD (a + i) 0 := by simp [List.getD]
theorem tup6 {k k' p p' n n' c c' a a' : Int} {t t' : ByteArray} (h : (k, t, p, n, c, a) = (k', t', p', n', c', a')) : k' = k ∧ t' = t ∧ p' = p ∧ n' = n ∧ c' = c ∧ a' = a := by
 simp only [Prod.mk.injEq] at h
 exact ⟨h.1.symm, h.2.1.symm, h.2.2.1.symm, h.2.2.2.1.symm, h.2.2.2.2.1.symm, h.2.2.2.2.2.symm⟩
theorem conv_err (at_ : Nat) (c a : Int) (h : c ≠ 0) (x : R) (e : x = (0, [], 0, c, a)) : conv at_ x = (0, ⟨#[]⟩, 0, 0, c, (at_ : Int) + a) := by subst e; unfold conv; rw [if_neg h]
theorem conv_ok (at_ : Nat) (k n a : Int) (t : B) (x : R) (e : x = (k, t, n, 0, a)) : conv at_ x = (k, ⟨t.toArray⟩, (at_ : Int), (at_ : Int) + n, 0, 0) := by subst e; rfl
theorem bytes_mk {W : ByteArray} {l : B} (h : W.data.toList = l) : (⟨l.toArray⟩ : ByteArray) = W := bytes_ext (by rw [← h])
end Go.Proofs.YtackifpnpkbddaaGreatDoorScan
