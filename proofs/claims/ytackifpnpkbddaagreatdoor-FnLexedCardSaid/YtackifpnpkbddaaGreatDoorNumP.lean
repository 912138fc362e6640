/- Proved: what the reference's functions of reading a run of bytes, noughts and digits answer, in plain words. -/
import Derived.Test.YtackifpnpkbddaaGreatDoorQNumx
import Derived.Test.YtackifpnpkbddaaGreatDoorScW
set_option linter.unusedVariables false
set_option linter.unusedSimpArgs false
namespace Go.Proofs.YtackifpnpkbddaaGreatDoorScan
open Go Go.RowKit Go.Proofs.YtackifpnpkbddaaGreatDoorW.PrintWords Go.Proofs.YtackifpnpkbddaaGreatDoorW.PrintLast Go.Proofs.YtackifpnpkbddaaGreatDoorW.PrintMore Go.Proofs.YtackifpnpkbddaaGreatDoor.QNum
theorem mono_le {α : Type} {f : Nat → Option α} (h : ∀ k, LeO (f k) (f (k + 1))) {k m : Nat} (hk : k ≤ m) {r : α} (e : f k = some r) : f m = some r := by
 obtain ⟨d, rfl⟩ : ∃ d, m = k + d := ⟨m - k, by omega⟩
 clear hk
 induction d with
 | zero => exact e
 | succ d ih => exact h _ _ ih
/-- With enough rounds, it is told for good. -/
def Ev {α : Type} (f : Nat → Option α) (r : α) : Prop := ∃ k, ∀ m, k ≤ m → f m = some r
theorem Ev.of {α : Type} {f : Nat → Option α} {r : α} (hm : ∀ k, LeO (f k) (f (k + 1))) (h : ∃ k, f k = some r) : Ev f r := by
 obtain ⟨k, hk⟩ := h
 exact ⟨k, fun m hle => mono_le hm hle hk⟩
theorem Ev.succ {α : Type} {f g : Nat → Option α} {r : α} (h : Ev g r) (e : ∀ k, f (k + 1) = g k) : Ev f r := by
 obtain ⟨k, hk⟩ := h
 refine ⟨k + 1, fun m hm => ?_⟩
 obtain ⟨m, rfl⟩ : ∃ z, m = z + 1 := ⟨m - 1, by omega⟩
 rw [e]; exact hk m (by omega)
theorem Ev.bind {α β : Type} {f : Nat → Option α} {r : α} (h : Ev f r) {g : Nat → α → Option β} {s : β} (hg : Ev (fun k => g k r) s) : Ev (fun k => (f k).bind (g k)) s := by
 obtain ⟨k, hk⟩ := h
 obtain ⟨l, hl⟩ := hg
 refine ⟨k + l, fun m hm => ?_⟩
 show (f m).bind (g m) = some s
 rw [hk m (by omega)]
 exact hl m (by omega)
theorem Ev.now {α : Type} (r : α) : Ev (fun _ => some r) r := ⟨0, fun _ _ => rfl⟩
theorem Ev.eq {α : Type} {f g : Nat → Option α} {r : α} (h : Ev g r) (e : ∀ k, f k = g k) : Ev f r := by
 obtain ⟨k, hk⟩ := h
 exact ⟨k, fun m hm => by rw [e]; exact hk m hm⟩
theorem up (a b : Nat) (h : a + b ≤ 1000000000000) : wrap64 ((a : Int) + (b : Int)) = ((a + b : Nat) : Int) := by unfold wrap64; omega
theorem up1 (a : Nat) (h : a ≤ 1000000000000) : wrap64 ((a : Int) + 1) = ((a + 1 : Nat) : Int) := by unfold wrap64; omega
theorem sdig_f (c : UInt8) : spec_l02Digit.f (c.toNat : Int) = some (isDig c) := dig_f c
theorem slet_f (c : UInt8) : spec_l02Letter.f (c.toNat : Int) = some (isLet c) := let_f c
theorem bt_L {s : ByteArray} {L : B} (hL : s.data.toList = L) {i : Nat} (h : i < L.length) : bt s (i : Int) = ((L.getD i 0).toNat : Int) := by
 subst hL; exact bt_get s i h
theorem size_L {s : ByteArray} {L : B} (hL : s.data.toList = L) : s.size = L.length := by subst hL; rfl

section
variable {s : ByteArray} {L : B} (hL : s.data.toList = L) (hs : L.length ≤ 1048576)
include hL hs
/-- How many bytes are such. -/
theorem run_loop (w : Int) (p : UInt8 → Bool) (hp : w = 0 ∧ p = isWd ∨ w = 1 ∧ p = isDig) (at_ : Nat) :
  ∀ (f n : Nat), at_ + n + f = L.length → spec_l02Run.l0 (f + 1) s at_ w n = some ((n + cnt p (L.drop (at_ + n)) : Nat) : Int)
 | 0, n, h => by
  unfold spec_l02Run.l0
  rw [up _ _ (by omega), if_neg (by rw [size_L hL]; omega), cnt_end (by omega)]
  rfl
 | f + 1, n, h => by
  have hlt : at_ + n < L.length := by omega
  unfold spec_l02Run.l0
  rw [up _ _ (by omega), if_pos (by rw [size_L hL]; omega), if_pos (by omega), bt_L hL hlt, sdig_f]
  show (if isDig _ = true then _ else _) = _
  have ih := run_loop w p hp at_ f (n + 1) (by omega)
  have hu := up1 n (by omega)
  by_cases h1 : isDig (L.getD (at_ + n) 0) = true
  ·rw [if_pos h1, hu, ih]
   have : p (L.getD (at_ + n) 0) = true := by rcases hp with ⟨_, rfl⟩ | ⟨_, rfl⟩; exact wd_yes2 h1; exact h1
   rw [cnt_yes hlt this, ← Nat.add_assoc at_ n 1]
   congr 2; omega
  ·have h1' : isDig (L.getD (at_ + n) 0) = false := by simpa using h1
   rw [if_neg h1]
   by_cases hw : w = 0
   ·rw [if_pos hw, slet_f]
    show (if isLet _ = true then _ else _) = _
    obtain ⟨_, rfl⟩ : w = 0 ∧ p = isWd := by rcases hp with h | h; exact h; omega
    by_cases h2 : isLet (L.getD (at_ + n) 0) = true
    ·rw [if_pos h2, hu, ih, cnt_yes hlt (wd_yes1 h2), ← Nat.add_assoc at_ n 1]
     congr 2; omega
    ·rw [if_neg h2, cnt_no hlt (wd_no (by simpa using h2) h1')]
     rfl
   ·rw [if_neg hw]
    obtain ⟨_, rfl⟩ : w = 1 ∧ p = isDig := by rcases hp with h | h; omega; exact h
    rw [cnt_no hlt h1']
    rfl
theorem run_told (w : Int) (p : UInt8 → Bool) (hp : w = 0 ∧ p = isWd ∨ w = 1 ∧ p = isDig) (at_ : Nat) (h : at_ ≤ L.length) : Ev (fun k => spec_l02Run.f k s at_ w) ((cnt p (L.drop at_) : Nat) : Int) :=
 Ev.of (fun k => spec_l02Run.mono _ _ _ k) ⟨L.length - at_ + 1, by
  have := run_loop hL hs w p hp at_ (L.length - at_) 0 (by omega)
  unfold spec_l02Run.f
  rw [Nat.zero_add] at this
  exact this⟩
end
theorem trim_keep {c : UInt8} {r : B} (hc : ¬ c = 48) : Lib.trimLeftB (c :: r) 48 = c :: r := by unfold Lib.trimLeftB; rw [List.dropWhile_cons]; simp [hc]
/-- Leading noughts go, one byte stays. -/
theorem noughts_loop : ∀ (n : Nat) (t : ByteArray), t.data.toList.length = n + 1 → ∃ r : ByteArray, spec_l02Noughts.l0 (n + 1) t = some r ∧ r.data.toList = whole t.data.toList
 | 0, t, h => by
  refine ⟨t, ?_, ?_⟩
  ·unfold spec_l02Noughts.l0
   rw [if_neg (by rw [size_len]; omega)]
  ·match e : t.data.toList, h with
   | [c], _ =>
    by_cases hc : c = 48
    ·subst hc; rfl
    ·unfold whole; rw [trim_keep hc, if_neg (by simp)]
 | n + 1, t, h => by
  unfold spec_l02Noughts.l0
  rw [if_pos (by rw [size_len]; omega), if_pos (by rw [size_len]; omega)]
  have hb : bt t (0 : Int) = ((t.data.toList.getD 0 0).toNat : Int) := bt_get t 0 (by rw [size_len]; omega)
  rw [hb]
  match e : t.data.toList, h with
  | c :: d :: r, h =>
   by_cases hc : c = 48
   ·rw [if_pos (by show ((c.toNat : Nat) : Int) = 48; rw [hc]; rfl), if_pos (by rw [size_len]; omega)]
    have he : (t.extract 1 t.size).data.toList = d :: r := by rw [Lib.extract_to_end, e]; rfl
    obtain ⟨q, h1, h2⟩ := noughts_loop n (t.extract 1 t.size) (by rw [he]; simpa using h)
    refine ⟨q, h1, ?_⟩
    rw [h2, he, hc]
    unfold whole Lib.trimLeftB
    rw [show (48 :: d :: r : B).dropWhile (fun x => x == 48) = (d :: r).dropWhile (fun x => x == 48) from rfl]
   ·rw [if_neg (by show ¬ ((c.toNat : Nat) : Int) = 48; intro h3; exact hc (UInt8.toNat_inj.1 (show c.toNat = 48 by omega)))]
    refine ⟨t, rfl, ?_⟩
    rw [e]
    unfold whole; rw [trim_keep hc, if_neg (by simp)]
theorem noughts_told (t : ByteArray) (h : t.data.toList ≠ []) : ∃ (k : Nat) (r : ByteArray), spec_l02Noughts.f k t = some r ∧ r.data.toList = whole t.data.toList := by
 obtain ⟨n, hn⟩ : ∃ n, t.data.toList.length = n + 1 := ⟨t.data.toList.length - 1, by have := List.length_pos_iff.2 h; omega⟩
 obtain ⟨r, h1, h2⟩ := noughts_loop n t hn
 exact ⟨n + 1, r, h1, h2⟩
theorem digits_loop {t : ByteArray} {l : B} (ht : t.data.toList = l) (hd : ∀ c ∈ l, isDig c = true) (hl : l.length ≤ 19) :
  ∀ (f i a : Nat), i + f = l.length → (a + 1) * 10 ^ f ≤ 10 ^ 19 → spec_l01Digits.l0 (f + 1) t a i = some (((val a (l.drop i) : Nat) : Int), true)
 | 0, i, a, h, _ => by
  unfold spec_l01Digits.l0
  rw [if_neg (by rw [size_len, ht]; omega), List.drop_eq_nil_of_le (by omega)]
  rfl
 | f + 1, i, a, h, ha => by
  have hi : i < l.length := by omega
  have hc : 48 ≤ (l.getD i 0).toNat ∧ (l.getD i 0).toNat ≤ 57 := of_decide_eq_true (hd _ (by simp [List.getD, hi]))
  unfold spec_l01Digits.l0
  rw [if_pos (by rw [size_len, ht]; omega), if_pos (by omega), bt_get t i (by rw [size_len, ht]; exact hi), ht, if_neg (by omega), if_neg (by omega), up1 i (by omega)]
  have h10 : (a + 1) * 10 ≤ 10 ^ 19 := by
   have : 1 ≤ 10 ^ f := Nat.one_le_pow _ _ (by decide)
   rw [Nat.pow_succ, Nat.mul_comm (10 ^ f) 10, ← Nat.mul_assoc] at ha
   exact Nat.le_trans (Nat.le_mul_of_pos_right _ this) ha
  have hw : IntKind.u64.wrap ((IntKind.u64.wrap (10 * (a : Int))) + ((((l.getD i 0).toNat : Int) - 48) % 256)) = ((a * 10 + ((l.getD i 0).toNat - 48) : Nat) : Int) := by
   have e : ∀ x : Int, IntKind.u64.wrap x = x % 18446744073709551616 := fun x => by simp [IntKind.wrap, IntKind.signed, IntKind.bits]
   rw [e, e]
   omega
  rw [hw]
  have ih := digits_loop ht hd hl f (i + 1) (a * 10 + ((l.getD i 0).toNat - 48)) (by omega) (by
   have h1 : a * 10 + ((l.getD i 0).toNat - 48) + 1 ≤ (a + 1) * 10 := by omega
   have h2 := Nat.mul_le_mul_right (10 ^ f) h1
   rw [Nat.pow_succ, Nat.mul_comm (10 ^ f) 10, ← Nat.mul_assoc] at ha
   omega)
  rw [ih, drop_cons l i hi]
  rfl
theorem digits_told {t : ByteArray} {l : B} (ht : t.data.toList = l) (hd : ∀ c ∈ l, isDig c = true) (h0 : l ≠ []) (hl : l.length ≤ 19) : ∃ k, spec_l01Digits.f k t 19 = some (((val 0 l : Nat) : Int), true) := by
 have h1 := List.length_pos_iff.2 h0
 refine ⟨l.length + 2, ?_⟩
 unfold spec_l01Digits.f
 rw [if_neg (by rw [size_len, ht]; omega), decide_eq_false (by rw [size_len, ht]; omega)]
 show spec_l01Digits.j0 (l.length + 1 + 1) t false = _
 simp only [spec_l01Digits.j0]
 rw [if_neg (by simp)]
 have h := digits_loop ht hd hl l.length 0 0 (by omega) (by rw [Nat.zero_add, Nat.one_mul]; exact Nat.pow_le_pow_right (by decide) hl)
 rw [List.drop_zero] at h
 exact h
end Go.Proofs.YtackifpnpkbddaaGreatDoorScan
