/- Proved: the token that the reference reads at a place is the one of the plain words; a token that stands takes one byte or more. -/
import Derived.Test.YtackifpnpkbddaaDoorPureLexA
set_option linter.unusedVariables false
set_option linter.unusedSimpArgs false
namespace Go.Proofs.YtackifpnpkbddaaDoor.PureLex
open Go.RowKit Go.Lib Go.Proofs.YtackifpnpkbddaaDoor.QFnExactLex Go.Proofs.YtackifpnpkbddaaDoorScan Go.Proofs.YtackifpnpkbddaaDoor.CharsLx
open Go.Proofs.YtackifpnpkbddaaDoorW.PrintWords hiding Ev Ev.bind Ev.congr Ev.now Ev.of Ev.rounds Ev.step 
open Go.Proofs.YtackifpnpkbddaaDoorW.PrintLast hiding up
theorem sgn_small : ∀ x ∈ signB, 1 ≤ x.length ∧ x.length ≤ 2 := by decide
theorem j0_yes (k : Nat) (x1 : Int) (x10 : ByteArray) (x11 : Int) : spec_l02Token.j0 (k + 1) x1 x10 x11 true = some (0, (⟨#[]⟩ : ByteArray), 0, 0, 2, x1) := by rw [spec_l02Token.j0, if_pos rfl]
theorem j0_no (k : Nat) (x1 : Int) (x10 : ByteArray) (x11 : Int) : spec_l02Token.j0 (k + 1) x1 x10 x11 false = if (x10.size : Int) > 30 then (some (0, (⟨#[]⟩ : ByteArray), 0, 0, 5, x1)) else (some (2, x10, x1, x11, 0, 0)) := by rw [spec_l02Token.j0, if_neg (by simp)]
theorem j1_yes (k : Nat) (x1 : Int) (x10 : ByteArray) (x11 : Int) (l : List Int) : spec_l02Token.j1 (k + 1) x1 x10 x11 l true = some (0, (⟨#[]⟩ : ByteArray), 0, 0, 2, x1) := by rw [spec_l02Token.j1, if_pos rfl]
theorem j1_no (k : Nat) (x1 : Int) (x10 : ByteArray) (x11 : Int) (l : List Int) : spec_l02Token.j1 (k + 1) x1 x10 x11 l false = if (l.length : Int) > 255 then (some (0, (⟨#[]⟩ : ByteArray), 0, 0, 5, x1)) else (some (5, x10, x1, x11, 0, 0)) := by rw [spec_l02Token.j1, if_neg (by simp)]
theorem conv_err0 (at_ : Nat) (c : Int) (h : c ≠ 0) : conv at_ (err c) = (0, ⟨#[]⟩, 0, 0, c, (at_ : Int)) := by
 unfold conv; rw [if_neg h]; simp
theorem conv_yes (at_ : Nat) (k n : Int) (t : B) : conv at_ (k, t, n, 0, 0) = (k, ⟨t.toArray⟩, (at_ : Int), (at_ : Int) + n, 0, 0) := rfl
theorem getD_drop0 (L : B) (a : Nat) : (L.drop a).getD 0 0 = L.getD a 0 := by rw [getD_drop]; rfl
theorem data_mk (t : B) : (⟨t.toArray⟩ : ByteArray).data.toList = t := by simp
theorem toList_mk (t : B) : (⟨t.toArray⟩ : ByteArray).toList = t := by rw [ByteArray.toList_eq]
theorem size_mk (t : B) : (⟨t.toArray⟩ : ByteArray).size = t.length := by rw [size_len, data_mk]
theorem betw_le (q : UInt8) : ∀ (n : Nat) (l : B), l.length ≤ n → ∀ x, betw q l = some x → x.1.length ≤ x.2 ∧ x.2 ≤ l.length
 | 0, l, h, x, e => by
  obtain rfl : l = [] := List.eq_nil_of_length_eq_zero (by omega)
  cases e
 | n + 1, [], h, x, e => by cases e
 | n + 1, [c], h, x, e => by
  unfold betw at e
  split at e
  ·cases e; simp
  ·cases e
 | n + 1, c :: d :: r, h, x, e => by
  unfold betw at e
  simp only [List.length_cons] at h
  split at e
  ·split at e
   ·obtain ⟨y, hy, rfl⟩ := Option.map_eq_some_iff.1 e
    have := betw_le q n r (by omega) y hy
    simp only [List.length_cons]; omega
   ·cases e; simp
  ·obtain ⟨y, hy, rfl⟩ := Option.map_eq_some_iff.1 e
   have := betw_le q n (d :: r) (by simp only [List.length_cons]; omega) y hy
   simp only [List.length_cons] at this ⊢; omega

section
variable {s : ByteArray} {L : B} (hL : s.data.toList = L) (hs : L.length ≤ 1048576)
include hL hs
theorem tok_word (at_ : Nat) (h : at_ < L.length) (h1 : isLet (L.getD at_ 0) = true) : Ev (fun k => spec_l02Token.f k s at_) (conv at_ (wrdF (L.drop at_) (1 + cnt isWd ((L.drop at_).drop 1)))) := by
 have hr := run_told hL hs 0 isWd (.inl ⟨rfl, rfl⟩) at_ (by omega)
 have hn : cnt isWd (L.drop at_) = 1 + cnt isWd ((L.drop at_).drop 1) := by
  rw [List.drop_drop, cnt_yes h (wd_yes1 h1)]; omega
 rw [← hn]
 obtain ⟨n, hn'⟩ : ∃ n, cnt isWd (L.drop at_) = n := ⟨_, rfl⟩
 have hle : n ≤ L.length - at_ := by rw [← hn', ← List.length_drop]; exact cnt_le _ _
 rw [hn'] at hr ⊢
 clear hn hn'
 have hc := case_told (s := s.extract at_ (at_ + n)) (L := (L.drop at_).take n) (by rw [ext_take, hL, Nat.add_sub_cancel_left]) (by rw [List.length_take, List.length_drop]; omega)
 refine Ev.eq (g := fun k => (spec_l02Run.f k s at_ 0).bind fun t166 => (if t166 > 30 then (some (0, (⟨#[]⟩ : ByteArray), 0, 0, 5, (at_ : Int))) else (if (at_ : Int) ≤ (wrap64 ((at_ : Int) + t166)) then (if (wrap64 ((at_ : Int) + t166)) ≤ (s.size : Int) then ((spec_l01Case.f k (s.extract ((at_ : Int)).toNat ((wrap64 ((at_ : Int) + t166)) : Int).toNat) 65 97).bind fun t167 => (some (1, t167, (at_ : Int), wrap64 ((at_ : Int) + t166), 0, 0))) else (none)) else (none)))) (Ev.bind hr ?_) (fun k => by
  unfold spec_l02Token.f
  rw [if_pos (by omega), if_pos (by rw [size_L hL]; omega), bt_L hL h, slet_f, h1, Option.bind_some, if_pos rfl])
 unfold wrdF
 by_cases h3 : 30 < n
 ·rw [if_pos h3, conv_err0 _ _ (by decide)]
  exact Ev.eq (Ev.now _) (fun k => if_pos (by omega))
 ·rw [if_neg h3, conv_yes]
  refine Ev.eq (g := fun k => (spec_l01Case.f k (s.extract at_ (at_ + n)) 65 97).bind fun t167 => some (1, t167, (at_ : Int), ((at_ + n : Nat) : Int), 0, 0)) ?_ (fun k => by
   show (if (n : Int) > 30 then _ else _) = _
   rw [if_neg (by omega), up at_ n (by omega), if_pos (by omega), if_pos (by rw [size_L hL]; omega), Int.toNat_natCast, Int.toNat_natCast])
  refine Ev.bind hc ?_
  refine Ev.eq (Ev.now _) (fun k => ?_)
  rfl
theorem tok_quo (at_ : Nat) (h : at_ < L.length) (h1 : isLet (L.getD at_ 0) = false) (h2 : L.getD at_ 0 = 34) : Ev (fun k => spec_l02Token.f k s at_) (conv at_ (quoF (betw 34 ((L.drop at_).drop 1)))) := by
 have hb := btw_told hL hs 34 at_ h h2
 rw [List.drop_drop]
 refine Ev.eq (g := fun k => (spec_l02Between.f k s at_).bind fun bt175 => (if bt175.2 < 0 then (spec_l02Token.j0 k at_ bt175.1 bt175.2 true) else (if bt175.1.toList = ([] : List UInt8) then (spec_l02Token.j0 k at_ bt175.1 bt175.2 true) else ((spec_l02Printable.f k bt175.1).bind fun t177 => (spec_l02Token.j0 k at_ bt175.1 bt175.2 (!t177)))))) (Ev.bind hb ?_) (fun k => by
  unfold spec_l02Token.f
  rw [if_pos (by omega), if_pos (by rw [size_L hL]; omega), bt_L hL h, slet_f, h1, Option.bind_some, if_neg (by simp), sdig_f, h2, show isDig 34 = false from by decide, Option.bind_some, if_neg (by simp), if_pos (by decide)])
 cases e : betw 34 (L.drop (at_ + 1)) with
 | none =>
  show Ev _ (conv at_ (err 2))
  rw [conv_err0 _ _ (by decide)]
  refine Ev.eq (g := fun k => spec_l02Token.j0 k at_ ⟨#[]⟩ (-1) true) ?_ (fun k => if_pos (show (-1 : Int) < 0 by decide))
  exact Ev.succ (Ev.now _) (fun k => j0_yes k _ _ _)
 | some x =>
  have hx := betw_le 34 _ _ (Nat.le_refl _) x e
  rw [List.length_drop] at hx
  refine Ev.eq (g := fun k => (if x.1 = ([] : List UInt8) then (spec_l02Token.j0 k at_ ⟨x.1.toArray⟩ ((at_ + 1 + x.2 : Nat) : Int) true) else ((spec_l02Printable.f k ⟨x.1.toArray⟩).bind fun t177 => (spec_l02Token.j0 k at_ ⟨x.1.toArray⟩ ((at_ + 1 + x.2 : Nat) : Int) (!t177))))) ?_ (fun k => by
   show (if (((at_ + 1 + x.2 : Nat) : Int)) < 0 then _ else if (⟨([] ++ x.1).toArray⟩ : ByteArray).toList = [] then _ else _) = _
   rw [if_neg (by omega), List.nil_append, toList_mk]
   rfl)
  by_cases h3 : x.1 = []
  ·rw [show quoF (some x) = err 2 from if_pos (.inr h3), conv_err0 _ _ (by decide)]
   refine Ev.eq (g := fun k => spec_l02Token.j0 k at_ ⟨x.1.toArray⟩ ((at_ + 1 + x.2 : Nat) : Int) true) ?_ (fun k => if_pos h3)
   exact Ev.succ (Ev.now _) (fun k => j0_yes k _ _ _)
  ·refine Ev.eq (g := _) ?_ (fun k => if_neg h3)
   refine Ev.bind (pr_told (data_mk x.1) (by omega)) ?_
   cases hp : x.1.all isPr
   ·have : quoF (some x) = err 2 := if_pos (.inl hp)
    rw [this, conv_err0 _ _ (by decide)]
    exact Ev.succ (Ev.now _) (fun k => j0_yes k _ _ _)
   ·have hq : quoF (some x) = if 30 < x.1.length then err 5 else (2, x.1, (x.2 : Int) + 1, 0, 0) := if_neg (fun h9 => by rcases h9 with h9 | h9; exact absurd (hp.symm.trans h9) (by simp); exact h3 h9)
    rw [hq]
    by_cases h4 : 30 < x.1.length
    ·rw [if_pos h4, conv_err0 _ _ (by decide)]
     exact Ev.succ (Ev.now _) (fun k => (j0_no k _ _ _).trans (if_pos (by rw [size_mk]; omega)))
    ·rw [if_neg h4, conv_yes, show (at_ : Int) + ((x.2 : Int) + 1) = ((at_ + 1 + x.2 : Nat) : Int) by omega]
     exact Ev.succ (Ev.now _) (fun k => (j0_no k _ _ _).trans (if_neg (by rw [size_mk]; omega)))
theorem tok_txt (at_ : Nat) (h : at_ < L.length) (h1 : isLet (L.getD at_ 0) = false) (h2 : L.getD at_ 0 = 39) : Ev (fun k => spec_l02Token.f k s at_) (conv at_ (txtF (betw 39 ((L.drop at_).drop 1)))) := by
 have hb := btw_told hL hs 39 at_ h h2
 rw [List.drop_drop]
 refine Ev.eq (g := fun k => (spec_l02Between.f k s at_).bind fun bt178 => ((spec_l01Chars.f k bt178.1).bind fun bt180 => (if bt178.2 < 0 then (spec_l02Token.j1 k at_ bt178.1 bt178.2 bt180.1 true) else (spec_l02Token.j1 k at_ bt178.1 bt178.2 bt180.1 (!bt180.2))))) (Ev.bind hb ?_) (fun k => by
  unfold spec_l02Token.f
  rw [if_pos (by omega), if_pos (by rw [size_L hL]; omega), bt_L hL h, slet_f, h1, Option.bind_some, if_neg (by simp), sdig_f, h2, show isDig 39 = false from by decide, Option.bind_some, if_neg (by simp), if_neg (by decide), if_pos (by decide)])
 cases e : betw 39 (L.drop (at_ + 1)) with
 | none =>
  show Ev _ (conv at_ (err 2))
  rw [conv_err0 _ _ (by decide)]
  refine Ev.bind (Ev.of (fun k => spec_l01Chars.mono _ k) (chars_told ⟨#[]⟩ (by decide))) ?_
  refine Ev.eq (g := fun k => spec_l02Token.j1 k at_ ⟨#[]⟩ (-1) _ true) ?_ (fun k => if_pos (show (-1 : Int) < 0 by decide))
  exact Ev.succ (Ev.now _) (fun k => j1_yes k _ _ _ _)
 | some x =>
  have hx := betw_le 39 _ _ (Nat.le_refl _) x e
  rw [List.length_drop] at hx
  obtain ⟨t, ht⟩ : ∃ t : ByteArray, (⟨x.1.toArray⟩ : ByteArray) = t := ⟨_, rfl⟩
  have hd : t.data.toList = x.1 := by rw [← ht, data_mk]
  refine Ev.eq (g := fun k => (spec_l01Chars.f k t).bind fun bt180 => spec_l02Token.j1 k at_ t ((at_ + 1 + x.2 : Nat) : Int) bt180.1 (!bt180.2)) ?_ (fun k => by
   show ((spec_l01Chars.f k (⟨([] ++ x.1).toArray⟩ : ByteArray)).bind fun bt180 => if (((at_ + 1 + x.2 : Nat) : Int)) < 0 then _ else spec_l02Token.j1 k at_ (⟨([] ++ x.1).toArray⟩ : ByteArray) ((at_ + 1 + x.2 : Nat) : Int) bt180.1 (!bt180.2)) = _
   rw [List.nil_append, ht]
   simp only [if_neg (show ¬ (((at_ + 1 + x.2 : Nat) : Int)) < 0 by omega)])
  refine Ev.bind (Ev.of (fun k => spec_l01Chars.mono _ k) (chars_told t (by rw [size_len, hd]; omega))) ?_
  rw [hd]
  have hq : txtF (some x) = if validD x.1 = false then err 2 else if 255 < runeCountL x.1 then err 5 else (5, x.1, (x.2 : Int) + 1, 0, 0) := rfl
  rw [hq]
  cases hp : validD x.1
  ·rw [if_pos rfl, conv_err0 _ _ (by decide)]
   exact Ev.succ (Ev.now _) (fun k => j1_yes k _ _ _ _)
  ·have hc : runeCountL x.1 = (runes x.1).length := by rw [← hd, runeCountL_eq, runeCount_runes]
   show Ev (fun k => spec_l02Token.j1 k at_ t ((at_ + 1 + x.2 : Nat) : Int) (runes x.1) false) (conv at_ (if 255 < runeCountL x.1 then err 5 else (5, x.1, (x.2 : Int) + 1, 0, 0)))
   rw [hc]
   by_cases h4 : 255 < (runes x.1).length
   ·rw [if_pos h4, conv_err0 _ _ (by decide)]
    exact Ev.succ (Ev.now _) (fun k => (j1_no k _ _ _ _).trans (if_pos (by omega)))
   ·rw [if_neg h4, conv_yes, ht, show (at_ : Int) + ((x.2 : Int) + 1) = ((at_ + 1 + x.2 : Nat) : Int) by omega]
    exact Ev.succ (Ev.now _) (fun k => (j1_no k _ _ _ _).trans (if_neg (by omega)))
theorem tok_num (at_ : Nat) (h : at_ < L.length) (h1 : isLet (L.getD at_ 0) = false) (h2 : isDig (L.getD at_ 0) = true) : Ev (fun k => spec_l02Token.f k s at_) (conv at_ (scanNum (L.drop at_))) :=
 Ev.eq (Ev.now _) (fun k => by
  unfold spec_l02Token.f
  rw [if_pos (by omega), if_pos (by rw [size_L hL]; omega), bt_L hL h, slet_f, h1, Option.bind_some, if_neg (by simp), sdig_f, h2, Option.bind_some, if_pos rfl]
  unfold spec_l02Number.f
  rw [if_pos ⟨by omega, by rw [size_L hL]; omega, by rw [size_L hL]; omega, by rw [hL, Int.toNat_natCast]; exact h2⟩, Option.bind_some, hL, Int.toNat_natCast])
omit hL hs in
theorem sgn_len : ∀ (gs : List B) (l g : B), (∀ x ∈ gs, 1 ≤ x.length ∧ x.length ≤ 2) → sgnF gs l = some g → 1 ≤ g.length ∧ g.length ≤ 2 ∧ g.length ≤ l.length
 | [], l, g, hg, e => by cases e
 | x :: r, l, g, hg, e => by
  unfold sgnF at e
  split at e
  ·rename_i h9
   cases e
   have := hg x List.mem_cons_self
   exact ⟨this.1, this.2, ((pre_take _ _).1 h9).1⟩
  ·exact sgn_len r l g (fun y hy => hg y (List.mem_cons_of_mem _ hy)) e
theorem tok_sgn (at_ : Nat) (h : at_ < L.length) (h1 : isLet (L.getD at_ 0) = false) (h2 : isDig (L.getD at_ 0) = false) (h3 : L.getD at_ 0 ≠ 34) (h4 : L.getD at_ 0 ≠ 39) : Ev (fun k => spec_l02Token.f k s at_) (conv at_ (sgnR (sgnF signB (L.drop at_)))) := by
 have hg := sgn_told hL hs at_ (by omega)
 have n34 : ¬ ((L.getD at_ 0).toNat : Int) = 34 := fun h9 => h3 (UInt8.toNat_inj.1 (show (L.getD at_ 0).toNat = 34 by omega))
 have n39 : ¬ ((L.getD at_ 0).toNat : Int) = 39 := fun h9 => h4 (UInt8.toNat_inj.1 (show (L.getD at_ 0).toNat = 39 by omega))
 refine Ev.eq (g := fun k => (spec_l02SignAt.f k s at_).bind fun t184 => (if t184.toList = ([] : List UInt8) then (some (0, (⟨#[]⟩ : ByteArray), 0, 0, 2, (at_ : Int))) else (if t184.toList = ([33, 61] : List UInt8) then (some (6, (⟨#[60, 62]⟩ : ByteArray), (at_ : Int), wrap64 ((at_ : Int) + (t184.size : Int)), 0, 0)) else (some (6, t184, (at_ : Int), wrap64 ((at_ : Int) + (t184.size : Int)), 0, 0))))) (Ev.bind hg ?_) (fun k => by
  unfold spec_l02Token.f
  rw [if_pos (by omega), if_pos (by rw [size_L hL]; omega), bt_L hL h, slet_f, h1, Option.bind_some, if_neg (by simp), sdig_f, h2, Option.bind_some, if_neg (by simp), if_neg n34, if_neg n39])
 cases e : sgnF signB (L.drop at_) with
 | none =>
  show Ev _ (conv at_ (err 2))
  rw [conv_err0 _ _ (by decide)]
  exact Ev.eq (Ev.now _) (fun k => if_pos (show (⟨#[]⟩ : ByteArray).toList = [] by rw [ByteArray.toList_eq]))
 | some g =>
  have hl := sgn_len signB (L.drop at_) g sgn_small e
  refine Ev.eq (Ev.now _) (fun k => ?_)
  show (if (⟨g.toArray⟩ : ByteArray).toList = ([] : List UInt8) then _ else (if (⟨g.toArray⟩ : ByteArray).toList = ([33, 61] : List UInt8) then (some (6, (⟨#[60, 62]⟩ : ByteArray), (at_ : Int), wrap64 ((at_ : Int) + (((⟨g.toArray⟩ : ByteArray).size : Nat) : Int)), 0, 0)) else (some (6, (⟨g.toArray⟩ : ByteArray), (at_ : Int), wrap64 ((at_ : Int) + (((⟨g.toArray⟩ : ByteArray).size : Nat) : Int)), 0, 0)))) = some (conv at_ (6, (if g = [33, 61] then [60, 62] else g), (g.length : Int), 0, 0))
  rw [toList_mk, if_neg (by intro h9; rw [h9] at hl; simp at hl), size_mk, up at_ g.length (by omega), conv_yes]
  by_cases h5 : g = [33, 61]
  ·rw [if_pos h5, if_pos h5]; rfl
  ·rw [if_neg h5, if_neg h5]; rfl
/-- The token that the reference reads at a place. -/
theorem token_told (at_ : Nat) (h : at_ < L.length) : Ev (fun k => spec_l02Token.f k s at_) (conv at_ (scanL (L.drop at_))) := by
 unfold scanL
 rw [getD_drop0]
 cases h1 : isLet (L.getD at_ 0)
 ·rw [if_neg (by simp)]
  by_cases h2 : L.getD at_ 0 = 34
  ·rw [if_pos h2]; exact tok_quo hL hs at_ h h1 h2
  ·rw [if_neg h2]
   cases h3 : isDig (L.getD at_ 0)
   ·rw [if_neg (by simp)]
    by_cases h4 : L.getD at_ 0 = 39
    ·rw [if_pos h4]; exact tok_txt hL hs at_ h h1 h4
    ·rw [if_neg h4]; exact tok_sgn hL hs at_ h h1 h3 h2 h4
   ·rw [if_pos rfl]; exact tok_num hL hs at_ h h1 h3
 ·rw [if_pos rfl]; exact tok_word hL hs at_ h h1
end
theorem cnt_first {p : UInt8 → Bool} {l : B} (h : 0 < l.length) (hp : p (l.getD 0 0) = true) : 1 ≤ cnt p l := by
 have := cnt_yes (p := p) (l := l) (i := 0) h hp
 rw [List.drop_zero] at this; omega
theorem numEnd_ok (l : B) (k : Int) (t : B) (e : Nat) (h : (numEnd l k t e).2.2.2.1 = 0) : (numEnd l k t e).2.2.1 = (e : Int) := by
 unfold numEnd at h ⊢
 split at h
 ·exact absurd h (show ¬ (2 : Int) = 0 by decide)
 ·rename_i h9; rw [if_neg h9]
/-- A token that stands takes one byte or more, and no more than there are. -/
theorem scan_len (l : B) (h0 : 0 < l.length) (h : (scanL l).2.2.2.1 = 0) : ∃ n : Nat, (scanL l).2.2.1 = (n : Int) ∧ 1 ≤ n ∧ n ≤ l.length := by
 unfold scanL at h ⊢
 by_cases h1 : isLet (l.getD 0 0) = true
 ·rw [if_pos h1] at h ⊢
  unfold wrdF at h ⊢
  split at h
  ·exact absurd h (by decide)
  ·rename_i h9; rw [if_neg h9]
   have := cnt_le isWd (l.drop 1)
   rw [List.length_drop] at this
   exact ⟨_, rfl, by omega, by omega⟩
 rw [if_neg h1] at h ⊢
 by_cases h2 : l.getD 0 0 = 34
 ·rw [if_pos h2] at h ⊢
  cases e : betw 34 (l.drop 1) with
  | none => rw [e] at h; exact absurd h (by show ¬ (2 : Int) = 0; decide)
  | some x =>
   have hx := betw_le 34 _ _ (Nat.le_refl _) x e
   rw [List.length_drop] at hx
   rw [e] at h
   unfold quoF at h ⊢
   simp only at h ⊢
   split at h
   ·exact absurd h (by decide)
   ·split at h
    ·exact absurd h (by decide)
    ·rename_i h8 h9; rw [if_neg h8, if_neg h9]
     exact ⟨x.2 + 1, rfl, by omega, by omega⟩
 rw [if_neg h2] at h ⊢
 by_cases h3 : isDig (l.getD 0 0) = true
 ·rw [if_pos h3] at h ⊢
  have hc := cnt_first h0 h3
  have hcl := cnt_le isDig l
  unfold scanNum at h ⊢
  simp only at h ⊢
  split at h
  ·rename_i h9; rw [if_pos h9]
   split at h
   ·exact absurd h (by decide)
   ·rename_i h8; rw [if_neg h8, numEnd_ok _ _ _ _ h]
    have := cnt_le isDig (l.drop (cnt isDig l + 1))
    rw [List.length_drop] at this
    have := h9.1
    exact ⟨_, rfl, by omega, by omega⟩
  ·rename_i h9; rw [if_neg h9]
   split at h
   ·exact absurd h (by decide)
   ·rename_i h8; rw [if_neg h8, numEnd_ok _ _ _ _ h]
    exact ⟨_, rfl, hc, hcl⟩
 rw [if_neg h3] at h ⊢
 by_cases h4 : l.getD 0 0 = 39
 ·rw [if_pos h4] at h ⊢
  cases e : betw 39 (l.drop 1) with
  | none => rw [e] at h; exact absurd h (by show ¬ (2 : Int) = 0; decide)
  | some x =>
   have hx := betw_le 39 _ _ (Nat.le_refl _) x e
   rw [List.length_drop] at hx
   rw [e] at h
   unfold txtF at h ⊢
   simp only at h ⊢
   split at h
   ·exact absurd h (by decide)
   ·split at h
    ·exact absurd h (by decide)
    ·rename_i h8 h9; rw [if_neg h8, if_neg h9]
     exact ⟨x.2 + 1, rfl, by omega, by omega⟩
 rw [if_neg h4] at h ⊢
 cases e : sgnF signB l with
 | none => rw [e] at h; exact absurd h (by show ¬ (2 : Int) = 0; decide)
 | some g =>
  have hl := sgn_len signB l g sgn_small e
  exact ⟨g.length, rfl, hl.1, hl.2.2⟩
end Go.Proofs.YtackifpnpkbddaaDoor.PureLex
