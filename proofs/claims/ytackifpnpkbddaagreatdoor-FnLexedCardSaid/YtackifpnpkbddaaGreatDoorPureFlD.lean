/- Proved: the program's Lex of a text that is put together of tokens that stand, a blank between two, gives the tokens back. -/
import Derived.Test.YtackifpnpkbddaaGreatDoorPureFlC
import Derived.Test.YtackifpnpkbddaaGreatDoorQFnLexedx9
import Derived.Test.YtackifpnpkbddaaGreatDoorUxP
set_option linter.unusedVariables false
set_option linter.unusedSimpArgs false
set_option linter.unusedSectionVars false
namespace Go.Proofs.YtackifpnpkbddaaGreatDoor.PureFl
open Go.RowKit Go.Lib Go.Proofs.YtackifpnpkbddaaGreatDoor.QFnLexed Go.Proofs.YtackifpnpkbddaaGreatDoorScan Go.Proofs.YtackifpnpkbddaaGreatDoor.CharsFl
open Go.Proofs.YtackifpnpkbddaaGreatDoorW.PrintWords hiding Ev Ev.bind Ev.congr Ev.now Ev.of Ev.rounds Ev.step
open Go.Proofs.YtackifpnpkbddaaGreatDoorW.PrintLast hiding up
/-- Is it a blank. -/
def isBl (c : UInt8) : Bool := c == 32 || c == 9 || c == 10 || c == 13
theorem n_eq (c : UInt8) (z : Int) (d : UInt8) (hd : (d.toNat : Int) = z) : ((c.toNat : Int) = z) ↔ c = d := by
 constructor
 ·intro h; exact UInt8.toNat_inj.1 (by omega)
 ·intro h; rw [h, hd]
section
variable {s : ByteArray} {L : B} (hL : s.data.toList = L) (hs : L.length ≤ 8000)
include hL hs
theorem im_bl (at_ : Nat) (h : at_ < L.length) (acc : List S35) (k : Nat) : impl_Lex.l0 (k + 1) s acc at_ = impl_Lex.j1 k s acc at_ (isBl (L.getD at_ 0)) := by
 rw [impl_Lex.l0, if_pos (by rw [size_L hL]; omega), if_pos (by omega), bt_L hL h]
 obtain ⟨c, hc⟩ : ∃ c, L.getD at_ 0 = c := ⟨_, rfl⟩
 rw [hc]
 have e1 := n_eq c 32 32 rfl; have e2 := n_eq c 9 9 rfl; have e3 := n_eq c 10 10 rfl; have e4 := n_eq c 13 13 rfl
 by_cases h1 : c = 32
 ·rw [if_pos (e1.2 h1), h1]; rfl
 rw [if_neg (fun h9 => h1 (e1.1 h9))]
 by_cases h2 : c = 9
 ·rw [if_pos (e2.2 h2), h2]; rfl
 rw [if_neg (fun h9 => h2 (e2.1 h9))]
 by_cases h3 : c = 10
 ·rw [if_pos (e3.2 h3), h3]; rfl
 rw [if_neg (fun h9 => h3 (e3.1 h9))]
 by_cases h4 : c = 13
 ·rw [h4]; rfl
 have f1 : ((c.toNat : Int) == 13) = false := by rw [beq_eq_false_iff_ne]; exact fun h9 => h4 (e4.1 h9)
 have f2 : isBl c = false := by unfold isBl; simp [h1, h2, h3, h4]
 rw [f1, f2]
/-- A blank is passed. -/
theorem lex_blank (a : Nat) (y : B) (h : L.drop a = 32 :: y) (acc : List S35) (r : (List S35) × Int × Int) (hr : Ev (fun k => impl_Lex.l0 k s acc ((a + 1 : Nat) : Int)) r) : Ev (fun k => impl_Lex.l0 k s acc a) r := by
 have hlt : a < L.length := by
  apply Nat.lt_of_not_le; intro h9; rw [List.drop_eq_nil_of_le h9] at h; cases h
 have hg : L.getD a 0 = 32 := by have := drop_cons L a hlt; rw [h] at this; exact (List.cons.inj this).1.symm
 refine Ev.succ (g := fun k => impl_Lex.j1 k s acc a true) ?_ (fun k => by rw [im_bl hL hs a hlt, hg]; rfl)
 exact Ev.succ hr (fun k => by rw [impl_Lex.j1, if_pos rfl, up1 a (by omega)])
/-- A token is read. -/
theorem lex_tok (a : Nat) (k0 : Int) (t x : B) (h : L.drop a = wr k0 t ++ x) (hok : okS k0 t = true) (hx : Free x) (acc : List S35) (ha : acc.length < 2000) (r : (List S35) × Int × Int)
  (hr : Ev (fun k => impl_Lex.l0 k s (acc ++ [(⟨k0, ⟨t.toArray⟩, (a : Int)⟩ : S35)]) ((a + (wr k0 t).length : Nat) : Int)) r) : Ev (fun k => impl_Lex.l0 k s acc a) r := by
 obtain ⟨c, y, e, n1, n2, n3, n4, hp⟩ := fine_tok k0 t hok hx
 obtain ⟨s1, s2, s3, s4⟩ := scan_tok k0 t hok hx
 rw [e] at h hp s1 s2 s3 s4
 have hlt : a < L.length := by
  apply Nat.lt_of_not_le; intro h9; rw [List.drop_eq_nil_of_le h9] at h; cases h
 have hg : L.getD a 0 = c := by have := drop_cons L a hlt; rw [h] at this; exact (List.cons.inj this).1.symm
 have hbl : isBl c = false := by unfold isBl; simp [n1, n2, n3, n4]
 refine Ev.succ (g := fun k => impl_Lex.j1 k s acc a false) ?_ (fun k => by rw [im_bl hL hs a hlt, hg, hbl])
 have hpre : strings_HasPrefix.f (s.extract (a : Int).toNat s.size) (⟨#[45, 45]⟩ : ByteArray) = some false := by
  show Go.Proofs.YtackifpnpkbddaaGreatDoor.QScan.strings_HasPrefix.f _ _ = _
  rw [prefix_f, Int.toNat_natCast, Lib.extract_to_end, hL, h]
  exact congrArg some hp
 have hsc : impl_scan.f (s.extract a s.size) = some (k0, ⟨t.toArray⟩, 0, ((wr k0 t).length : Int), 0, (scanL (c :: y)).2.2.2.2) := by
  unfold impl_scan.f
  rw [if_pos ⟨by rw [size_len, Lib.extract_to_end, hL, List.length_drop]; omega, by rw [size_len, Lib.extract_to_end, hL, List.length_drop]; omega⟩, Lib.extract_to_end, hL, h, s1, s2, s3, s4]
 have hn : (wr k0 t).length ≤ 8000 := by
  have h5 := congrArg List.length h
  rw [List.length_drop, ← e, List.length_append] at h5
  omega
 refine Ev.succ hr (fun k => ?_)
 rw [impl_Lex.j1, if_neg (by simp), if_pos (by omega), if_pos (by rw [size_L hL]; omega), hpre, Option.bind_some, if_neg (by simp), if_neg (by omega), Int.toNat_natCast, hsc, Option.bind_some]
 show (if (0 : Int) = 0 then (if acc.length < 4398046511104 then impl_Lex.l0 k s (acc ++ [(⟨k0, ⟨t.toArray⟩, (a : Int)⟩ : S35)]) (wrap64 ((a : Int) + ((wr k0 t).length : Int))) else none) else _) = _
 rw [if_pos rfl, if_pos (by omega), up a _ (by omega)]
end
/-- The tokens with their places. -/
def toks : Nat → List S35 → List S35
 | _, [] => []
 | a, x :: r => ⟨x.f0, x.f1, (a : Int)⟩ :: toks (a + (wrX x).length + 1) r
theorem mk_data (x : ByteArray) : (⟨x.data.toList.toArray⟩ : ByteArray) = x := mk_L rfl
section
variable {s : ByteArray} {L : B} (hL : s.data.toList = L) (hs : L.length ≤ 8000)
include hL hs
theorem lex_rest : ∀ (r : List S35) (a : Nat) (acc : List S35), r.all okX = true → acc.length + r.length ≤ 2000 → L.drop a = joinTail [32] (r.map wrX) → a ≤ L.length →
  Ev (fun k => impl_Lex.l0 k s acc a) (acc ++ toks (a + 1) r, 0, 0)
 | [], a, acc, _, _, h, hle => by
  have h5 := congrArg List.length h
  rw [List.length_drop] at h5
  have h6 : L.length - a = 0 := h5
  have hne : ¬ ((a : Int) < (s.size : Int)) := by rw [size_L hL]; omega
  refine Ev.succ (Ev.now _) (fun k => ?_)
  rw [impl_Lex.l0, if_neg hne]
  show some (acc, (0 : Int), (0 : Int)) = some (acc ++ [], 0, 0)
  rw [List.append_nil]
 | x :: r, a, acc, hok, hlen, h, hle => by
  rw [List.all_cons, Bool.and_eq_true] at hok
  have hj : L.drop a = 32 :: (wrX x ++ joinTail [32] (r.map wrX)) := by rw [h]; simp [joinTail]
  have hlt : a < L.length := by
   apply Nat.lt_of_not_le; intro h9; rw [List.drop_eq_nil_of_le h9] at hj; cases hj
  have hd : L.drop (a + 1) = wrX x ++ joinTail [32] (r.map wrX) := by
   have := drop_cons L a hlt; rw [hj] at this; exact (List.cons.inj this).2.symm
  have hd2 : L.drop (a + 1 + (wrX x).length) = joinTail [32] (r.map wrX) := by
   rw [← List.drop_drop, hd, List.drop_left]
  have hle2 : a + 1 + (wrX x).length ≤ L.length := by
   have h5 := congrArg List.length hd
   rw [List.length_drop, List.length_append] at h5
   omega
  have hfree : Free (joinTail [32] (r.map wrX)) := by
   cases r with
   | nil => exact .inl rfl
   | cons y r => exact .inr ⟨_, rfl⟩
  rw [List.length_cons] at hlen
  refine lex_blank hL hs a _ hj acc _ ?_
  refine lex_tok hL hs (a + 1) x.f0 x.f1.data.toList _ hd hok.1 hfree acc (by omega) _ ?_
  have ih := lex_rest r (a + 1 + (wrX x).length) (acc ++ [(⟨x.f0, x.f1, ((a + 1 : Nat) : Int)⟩ : S35)]) hok.2 (by rw [List.length_append, List.length_singleton]; omega) hd2 hle2
  rw [mk_data]
  refine Ev.eq ih (fun k => rfl) |> fun h9 => ?_
  rw [List.append_assoc] at h9
  exact h9
end
/-- Lex gives back what was put together. -/
theorem lex_told (l : List S35) (hok : l.all okX = true) (hlen : l.length ≤ 2000) (h8 : (join (l.map wrX) [32]).length ≤ 8000) : Ev (fun k => impl_Lex.f k ⟨(join (l.map wrX) [32]).toArray⟩) (toks 0 l, 0, 0) := by
 have hL : (⟨(join (l.map wrX) [32]).toArray⟩ : ByteArray).data.toList = join (l.map wrX) [32] := data_mk _
 refine Ev.eq (g := fun k => impl_Lex.l0 k ⟨(join (l.map wrX) [32]).toArray⟩ ([] : List S35) 0) ?_ (fun k => ?_)
 ·cases l with
  | nil =>
   refine Ev.succ (Ev.now _) (fun k => ?_)
   rw [impl_Lex.l0, if_neg (by rw [size_L hL]; simp [join])]
   rfl
  | cons x r =>
   rw [List.all_cons, Bool.and_eq_true] at hok
   have hj : join ((x :: r).map wrX) [32] = wrX x ++ joinTail [32] (r.map wrX) := by rw [List.map_cons, join_cons]
   have hfree : Free (joinTail [32] (r.map wrX)) := by
    cases r with
    | nil => exact .inl rfl
    | cons y r => exact .inr ⟨_, rfl⟩
   rw [List.length_cons] at hlen
   have hd0 : (join ((x :: r).map wrX) [32]).drop 0 = wr x.f0 x.f1.data.toList ++ joinTail [32] (r.map wrX) := by rw [List.drop_zero]; exact hj
   refine lex_tok hL h8 0 x.f0 x.f1.data.toList _ hd0 hok.1 hfree [] (by simp) _ ?_
   have ih := lex_rest hL h8 r (0 + (wrX x).length) [(⟨x.f0, x.f1, ((0 : Nat) : Int)⟩ : S35)] hok.2 (by rw [List.length_singleton]; omega) (by rw [hj, Nat.zero_add, List.drop_left]) (by rw [hj, List.length_append]; omega)
   rw [mk_data]
   exact ih
 ·unfold impl_Lex.f
  rw [if_neg (by rw [size_L hL]; omega)]
end Go.Proofs.YtackifpnpkbddaaGreatDoor.PureFl
