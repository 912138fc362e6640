/- Proved: for every text the program's Lex and the reference's Lex answer alike, and the law's checks of what is kept and written hold. No other conditions. -/
import Derived.Test.YtackifpnpkbddaaDoorPureLexC
set_option linter.unusedVariables false
set_option linter.unusedSimpArgs false
namespace Go.Proofs.YtackifpnpkbddaaDoor.PureFnExactLex
open Go.RowKit Go.Lib Go.Proofs.YtackifpnpkbddaaDoor.QFnExactLex Go.Proofs.YtackifpnpkbddaaDoorScan Go.Proofs.YtackifpnpkbddaaDoor.PureLex
open Go.Proofs.YtackifpnpkbddaaDoorW.PrintWords hiding Ev Ev.bind Ev.congr Ev.now Ev.of Ev.rounds Ev.step 
open Go.Proofs.YtackifpnpkbddaaDoorW.PrintLast hiding up
theorem rd30 (l : List S30) (i : Nat) : rd_T30 l (i : Int) = l.getD i z30 := by unfold rd_T30; rw [Int.toNat_natCast]
theorem eqv_loop (l : List S30) (hl : l.length ≤ 1000000) : ∀ (n i : Nat), i + n = l.length → laws_eqTokenS.l0 (n + 1) l l (i : Int) = some true := by
 intro n
 induction n with
 | zero =>
  intro i hi
  simp only [laws_eqTokenS.l0]
  rw [if_neg (by omega)]
 | succ n ih =>
  intro i hi
  obtain ⟨q, hq⟩ : ∃ q, q = n + 1 := ⟨_, rfl⟩
  rw [← hq] at ih ⊢
  simp only [laws_eqTokenS.l0, laws_eqToken.f]
  rw [if_pos (by omega), if_pos (by omega), if_pos (by omega), if_pos trivial, if_pos trivial, if_pos trivial, Option.bind_some, if_pos rfl, up1 i (by omega)]
  exact ih (i + 1) (by omega)
theorem eqv_told (l : List S30) (hl : l.length ≤ 1000000) : Ev (fun k => laws_eqTokenS.f k l l) true := by
 refine Ev.of (laws_eqTokenS.mono l l) ⟨l.length + 1, ?_⟩
 unfold laws_eqTokenS.f
 rw [if_pos rfl]
 exact eqv_loop l hl l.length 0 (by omega)
theorem text_loop : ∀ (n : Nat) (a : Nat) (s : ByteArray), n ≤ 18 → a < 10 ^ n → s.size + n ≤ 100 → ∃ r, laws_markText.l0 (n + 1) (a : Int) s = some r := by
 intro n
 induction n with
 | zero =>
  intro a s _ ha hs
  obtain rfl : a = 0 := by simpa using ha
  simp only [laws_markText.l0]
  rw [if_neg (by decide), if_pos (by omega)]
  exact ⟨_, rfl⟩
 | succ n ih =>
  intro a s hn ha hs
  obtain ⟨q, hqq⟩ : ∃ q, q = n + 1 := ⟨_, rfl⟩
  rw [← hqq] at ih
  rw [show n + 1 + 1 = q + 1 by omega]
  simp only [laws_markText.l0]
  by_cases c : (a : Int) > 0
  ·rw [if_pos c, Option.bind_some]
   have hsz : (strOfNums [wrap64 (48 + Int.tmod (a : Int) 10) % 256]).size = 1 := by simp [strOfNums]; rfl
   rw [if_pos (by rw [hsz]; omega)]
   have e : wrap64 (Int.tdiv (a : Int) 10) = ((a / 10 : Nat) : Int) := by
    have h1 : Int.tdiv (a : Int) 10 = ((a / 10 : Nat) : Int) := rfl
    have h2 : a < 1000000000000000000 := Nat.lt_of_lt_of_le ha (Nat.le_trans (Nat.pow_le_pow_right (by decide) hn) (by decide))
    rw [h1]
    unfold wrap64
    omega
   rw [e]
   exact ih (a / 10) _ (by omega) (by rw [Nat.div_lt_iff_lt_mul (by decide)]; rw [Nat.pow_succ] at ha; exact ha) (by rw [ByteArray.size_append, hsz]; omega)
  ·rw [if_neg c, if_pos (by omega)]
   exact ⟨_, rfl⟩
theorem text_told (a : Nat) (h : a < 1000000000) : ∃ r, Ev (fun k => laws_markText.f k (a : Int)) r := by
 by_cases c : (a : Int) ≤ 0
 ·refine ⟨⟨#[109, 48]⟩, 0, fun m _ => ?_⟩
  show laws_markText.f m (a : Int) = _
  unfold laws_markText.f
  rw [if_pos c]
 ·obtain ⟨r, hr⟩ := text_loop 9 a ⟨#[]⟩ (by decide) (by omega) (by decide)
  refine ⟨r, Ev.of (laws_markText.mono (a : Int)) ⟨10, ?_⟩⟩
  unfold laws_markText.f
  rw [if_neg c]
  exact hr
/-- A token that holds its marks. -/
def Marked (x : S30) (q : Nat) : Prop := x.f0 = ((3 * q + 1 : Nat) : Int) ∧ Ev (fun k => laws_markText.f k ((3 * q + 2 : Nat) : Int)) x.f1 ∧ x.f2 = ((3 * q + 3 : Nat) : Int)
theorem markv_loop (len : Nat) (hz : len ≤ 1048576) : ∀ (n i : Nat) (c : Nat) (z : List S30), z.length = len → i + n = len → c = 3 * i + 1 → (∀ q, q < i → Marked (z.getD q z30) q) →
  ∃ y, Ev (fun k => laws_markTokenS.l0 k z (c : Int) (i : Int)) (((3 * len + 1 : Nat) : Int), y) ∧ y.length = len ∧ ∀ q, q < len → Marked (y.getD q z30) q := by
 intro n
 induction n with
 | zero =>
  intro i c z hl hi hc hq
  obtain rfl : i = len := by omega
  refine ⟨z, ⟨1, fun m hm => ?_⟩, hl, hq⟩
  obtain ⟨m, rfl⟩ : ∃ z, m = z + 1 := ⟨m - 1, by omega⟩
  simp only [laws_markTokenS.l0]
  rw [if_neg (by omega), hc]
 | succ n ih =>
  intro i c z hl hi hc hq
  obtain ⟨t, ht⟩ := text_told (c + 1) (by omega)
  obtain ⟨y1, hy1⟩ : ∃ y1, y1 = z.set i (⟨(c : Int), (rd_T30 z (i : Int)).f1, (rd_T30 z (i : Int)).f2⟩ : S30) := ⟨_, rfl⟩
  obtain ⟨y2, hy2⟩ : ∃ y2, y2 = y1.set i (⟨(rd_T30 y1 (i : Int)).f0, t, (rd_T30 y1 (i : Int)).f2⟩ : S30) := ⟨_, rfl⟩
  have hl1 : y1.length = len := by rw [hy1, List.length_set, hl]
  have hl2 : y2.length = len := by rw [hy2, List.length_set, hl1]
  have r1 : (rd_T30 y1 (i : Int)).f0 = (c : Int) := by rw [rd30, hy1]; simp [List.getD, hl, show i < len by omega]
  have r2 : (rd_T30 y2 (i : Int)).f0 = (c : Int) ∧ (rd_T30 y2 (i : Int)).f1 = t := by
   rw [rd30, hy2, r1]; simp [List.getD, hl1, show i < len by omega]
  obtain ⟨y, hy, hyl, hyq⟩ := ih (i + 1) (c + 3) (y2.set i (⟨(rd_T30 y2 (i : Int)).f0, (rd_T30 y2 (i : Int)).f1, ((c + 2 : Nat) : Int)⟩ : S30)) (by rw [List.length_set, hl2]) (by omega) (by omega) (fun q hlt => by
   rw [r2.1, r2.2]
   by_cases e : q = i
   ·subst e
    have e1 : (y2.set q (⟨(c : Int), t, ((c + 2 : Nat) : Int)⟩ : S30)).getD q z30 = ⟨(c : Int), t, ((c + 2 : Nat) : Int)⟩ := by
     simp [List.getD, hl2, show q < len by omega]
    rw [e1]
    exact ⟨by show (c : Int) = _; omega, by rw [show 3 * q + 2 = c + 1 by omega]; exact ht, by show ((c + 2 : Nat) : Int) = _; omega⟩
   ·have e1 : (y2.set i (⟨(c : Int), t, ((c + 2 : Nat) : Int)⟩ : S30)).getD q z30 = z.getD q z30 := by
     rw [hy2, hy1]
     simp [List.getD, Ne.symm e]
    rw [e1]
    exact hq q (by omega))
  refine ⟨y, Ev.succ (Ev.bind (g := fun k t => (some (y1.set i (⟨(rd_T30 y1 (i : Int)).f0, t, (rd_T30 y1 (i : Int)).f2⟩ : S30) : List S30)).bind fun y232 => laws_markTokenS.l0 k (y232.set i (⟨(rd_T30 y232 (i : Int)).f0, (rd_T30 y232 (i : Int)).f1, ((c + 2 : Nat) : Int)⟩ : S30)) ((c + 3 : Nat) : Int) ((i + 1 : Nat) : Int)) ht (Ev.eq hy (fun k => by rw [Option.bind_some, ← hy2]))) (fun k => ?_), hyl, hyq⟩
  simp only [laws_markTokenS.l0]
  rw [if_pos (by omega), if_pos (by omega), Option.bind_some, Int.toNat_natCast, up1 c (by omega), up1 (c + 1) (by omega), up1 (c + 1 + 1) (by omega), up1 i (by omega), ← hy1]
theorem heldv_loop (z : List S30) (hz : z.length ≤ 1048576) (hq : ∀ q, q < z.length → Marked (z.getD q z30) q) : ∀ (n i : Nat) (c : Nat), i + n = z.length → c = 3 * i + 1 →
  Ev (fun k => laws_heldTokenS.l0 k z (c : Int) (i : Int)) ((3 * z.length + 1 : Nat) : Int) := by
 intro n
 induction n with
 | zero =>
  intro i c hi hc
  refine Ev.succ (Ev.now _) (fun k => ?_)
  simp only [laws_heldTokenS.l0]
  rw [if_neg (by omega), hc, show i = z.length by omega]
 | succ n ih =>
  intro i c hi hc
  have h := ih (i + 1) (c + 3) (by omega) (by omega)
  obtain ⟨h0, h2, h1⟩ := hq i (by omega)
  rw [show 3 * i + 2 = c + 1 by omega] at h2
  refine Ev.succ (Ev.bind (g := fun k t => if (z.getD i z30).f1.toList = t.toList then (if (z.getD i z30).f2 = ((c + 2 : Nat) : Int) then laws_heldTokenS.l0 k z ((c + 3 : Nat) : Int) ((i + 1 : Nat) : Int) else some (-1)) else some (-1)) h2 (Ev.eq h (fun k => by
   show (if (z.getD i z30).f1.toList = (z.getD i z30).f1.toList then _ else _) = _
   rw [if_pos rfl, if_pos (by rw [h1]; omega)]))) (fun k => ?_)
  simp only [laws_heldTokenS.l0]
  rw [if_pos (by omega), if_pos (by omega), rd30, if_pos (by rw [h0]; omega), up1 c (by omega), up1 (c + 1) (by omega), up1 (c + 1 + 1) (by omega), up1 i (by omega)]
theorem markv_told (z : List S30) (hz : z.length ≤ 1048576) : ∃ y, Ev (fun k => laws_markTokenS.f k z 1) (((3 * z.length + 1 : Nat) : Int), y) ∧ Ev (fun k => laws_heldTokenS.f k y 1) ((3 * z.length + 1 : Nat) : Int) := by
 obtain ⟨y, h1, h2, h3⟩ := markv_loop z.length hz z.length 0 1 z rfl (by omega) rfl (fun q h => by omega)
 have h := heldv_loop y (by omega) (by rw [h2]; exact h3) y.length 0 1 (by omega) rfl
 rw [h2] at h
 exact ⟨y, h1, h⟩
theorem FnExactLex (s : ByteArray) : ∃ k, laws_FnExactLex.f k s = some true := by
 suffices h : Ev (fun k => laws_FnExactLex.f k s) true by
  obtain ⟨k, hk⟩ := h
  exact ⟨k, hk k (Nat.le_refl _)⟩
 by_cases c : (s.size : Int) > 1048576
 ·exact Ev.eq (Ev.now true) (fun k => if_pos c)
 refine Ev.eq ?_ (fun k => if_neg c)
 obtain ⟨⟨z, e, p⟩, hsp, him, hz⟩ := lex_both (s := s) rfl (by rw [← size_len]; omega)
 have hz' : z.length ≤ 2000 := hz
 have hv := eqv_told z (by omega)
 obtain ⟨y, hm, hh⟩ := markv_told z (by omega)
 have he : (p != p) = false := by simp
 have j1 : Ev (fun k => laws_FnExactLex.j1 k y ((3 * z.length + 1 : Nat) : Int) false) true := by
  refine Ev.succ (g := fun k => (laws_heldTokenS.f k y 1).bind fun t => if t < 0 then some false else if t = ((3 * z.length + 1 : Nat) : Int) then some true else some false) (Ev.bind (g := fun k t => if t < 0 then some false else if t = ((3 * z.length + 1 : Nat) : Int) then some true else some false) hh ?_) (fun k => rfl)
  exact Ev.eq (Ev.now true) (fun k => by
   show (if ((3 * z.length + 1 : Nat) : Int) < 0 then _ else _) = _
   rw [if_neg (by omega), if_pos rfl])
 have j0 : Ev (fun k => laws_FnExactLex.j0 k s z e p z false) true := by
  refine Ev.succ (g := _) (Ev.bind hm (Ev.bind hh ?_)) (fun k => rfl)
  refine Ev.eq (g := _) ?_ (fun k => if_neg (by omega))
  refine Ev.eq (g := _) ?_ (fun k => if_pos rfl)
  refine Ev.bind him (Ev.bind hv ?_)
  refine Ev.eq (g := _) ?_ (fun k => if_pos rfl)
  refine Ev.eq (g := _) ?_ (fun k => if_pos rfl)
  show Ev (fun k => laws_FnExactLex.j1 k y ((3 * z.length + 1 : Nat) : Int) (p != p)) true
  rw [he]
  exact j1
 refine Ev.bind hsp (Ev.bind him (Ev.bind hv ?_))
 refine Ev.eq (g := _) ?_ (fun k => if_pos rfl)
 refine Ev.eq (g := _) ?_ (fun k => if_pos rfl)
 show Ev (fun k => laws_FnExactLex.j0 k s z e p z (p != p)) true
 rw [he]
 exact j0
end Go.Proofs.YtackifpnpkbddaaDoor.PureFnExactLex
