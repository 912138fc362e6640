/- Proved: the reference's drawing of a list of tokens always ends, and no text in it is long. -/
import Derived.Test.YtackifpnpkbddaaGreatDoorPureFlC
import Derived.Test.YtackifpnpkbddaaGreatDoorQFnLexedx7
import Derived.Test.YtackifpnpkbddaaGreatDoorQFnLexedx8
set_option linter.unusedVariables false
set_option linter.unusedSimpArgs false
set_option linter.unusedSectionVars false
namespace Go.Proofs.YtackifpnpkbddaaGreatDoor.PureFl
open Go.RowKit Go.Lib Go.Proofs.YtackifpnpkbddaaGreatDoor.QFnLexed Go.Proofs.YtackifpnpkbddaaGreatDoorScan Go.Proofs.YtackifpnpkbddaaGreatDoor.CharsFl
open Go.Proofs.YtackifpnpkbddaaGreatDoorW.PrintWords hiding Ev Ev.bind Ev.congr Ev.now Ev.of Ev.rounds Ev.step
open Go.Proofs.YtackifpnpkbddaaGreatDoorW.PrintLast hiding up
/-- The cursor's place and seed. -/
def Fit (m : Nat) (a b : Int) : Prop := 0 ≤ a ∧ a ≤ m ∧ 0 ≤ b ∧ b < 2147483648
theorem Fit.more {m n : Nat} {a b : Int} (h : Fit m a b) (hn : m ≤ n) : Fit n a b := ⟨h.1, by have := h.2.1; omega, h.2.2⟩
theorem wf_u8 {x : Int} (h : (Lit.int .u8 x).wf = true) : 0 ≤ x ∧ x < 256 := by
 simp [Lit.wf] at h
 have e1 : IntKind.u8.min = 0 := rfl
 have e2 : IntKind.u8.max = 255 := rfl
 omega
theorem w64i (n : Int) (h1 : -9223372036854775808 ≤ n) (h2 : n ≤ 9223372036854775807) : wrap64 n = n := by
 unfold wrap64; omega
section
variable (l0 : List Int) (hw : ∀ x ∈ l0, (Lit.int .u8 x).wf = true) (hl : l0.length ≤ 1048576)
include hw hl
theorem byte_told (m : Nat) (hm : m ≤ 1000000) (s1 s2 s3 : Int) (h : Fit m s1 s2) : ∃ v a b c, spec_l01Cur_byte.f l0 s1 s2 s3 = some (v, a, b, c) ∧ 0 ≤ v ∧ v ≤ 255 ∧ Fit (m + 1) a b := by
 obtain ⟨h1, h2, h3, h4⟩ := h
 have e1 : wrap64 (s1 + 1) = s1 + 1 := w64i _ (by omega) (by omega)
 have e2 : wrap64 (40 * (l0.length : Int)) = 40 * (l0.length : Int) := w64i _ (by omega) (by omega)
 have e3 : wrap64 (200 + 40 * (l0.length : Int)) = 200 + 40 * (l0.length : Int) := w64i _ (by omega) (by omega)
 unfold spec_l01Cur_byte.f
 rw [e1, e2, e3]
 by_cases c1 : s1 + 1 > 200 + 40 * (l0.length : Int)
 ·rw [if_pos c1]
  exact ⟨_, _, _, _, rfl, by omega, by omega, by unfold Fit; omega⟩
 rw [if_neg c1]
 by_cases c2 : s1 + 1 > (l0.length : Int)
 ·rw [if_pos c2]
  have f1 : wrap64 (s2 * 1103515245) = s2 * 1103515245 := w64i _ (by omega) (by omega)
  have f2 : wrap64 (s2 * 1103515245 + 12345) = s2 * 1103515245 + 12345 := w64i _ (by omega) (by omega)
  rw [f1, f2]
  obtain ⟨S, hS⟩ : ∃ S, Int.tmod (s2 * 1103515245 + 12345) 2147483648 = S := ⟨_, rfl⟩
  have g1 : 0 ≤ S ∧ S < 2147483648 := by
   rw [← hS, Int.tmod_eq_emod_of_nonneg (by omega)]; omega
  rw [hS]
  have f3 : Int.tdiv S 65536 = S / 65536 := Int.tdiv_eq_ediv_of_nonneg g1.1
  have f4 : wrap64 (S / 65536) = S / 65536 := w64i _ (by omega) (by omega)
  rw [f3, f4, Int.tmod_eq_emod_of_nonneg (by omega)]
  exact ⟨_, _, _, _, rfl, by omega, by omega, by unfold Fit; omega⟩
 rw [if_neg c2]
 have e4 : wrap64 (s1 + 1 - 1) = s1 := by rw [w64i _ (by omega) (by omega)]; omega
 rw [e4, if_pos h1, if_pos (by omega)]
 obtain ⟨x, hx⟩ : ∃ x, rd l0 s1 = x := ⟨_, rfl⟩
 have hx2 : 0 ≤ x ∧ x < 256 := by
  rw [← hx]
  unfold rd
  have hi : s1.toNat < l0.length := by omega
  have : l0.getD s1.toNat 0 = l0[s1.toNat] := by simp [List.getD, hi]
  rw [this]
  exact wf_u8 (hw _ (List.getElem_mem hi))
 rw [hx, w64i x (by omega) (by omega), w64i (s2 * 31) (by omega) (by omega), w64i (s2 * 31 + x) (by omega) (by omega), w64i (s2 * 31 + x + 7) (by omega) (by omega), Int.tmod_eq_emod_of_nonneg (by omega)]
 exact ⟨_, _, _, _, rfl, by omega, by omega, by unfold Fit; omega⟩
theorem pick_told (m : Nat) (hm : m ≤ 1000000) (s1 s2 s3 : Int) (h : Fit m s1 s2) (n : Int) (h1 : 0 < n) (h2 : n ≤ 256) : ∃ v a b c, spec_l01Cur_pick.f l0 s1 s2 s3 n = some (v, a, b, c) ∧ 0 ≤ v ∧ v < n ∧ Fit (m + 2) a b := by
 unfold spec_l01Cur_pick.f
 by_cases c1 : n ≤ 1
 ·rw [if_pos c1]
  exact ⟨_, _, _, _, rfl, by omega, h1, h.more (by omega)⟩
 rw [if_neg c1, if_pos h2]
 obtain ⟨v, a, b, c, e, g1, g2, g3⟩ := byte_told l0 hw hl m hm s1 s2 s3 h
 rw [e, Option.bind_some, if_neg (by omega)]
 exact ⟨_, _, _, _, rfl, Int.tmod_nonneg _ g1, Int.tmod_lt_of_pos _ h1, g3.more (by omega)⟩
theorem mode_told (m : Nat) (hm : m ≤ 1000000) (s1 s2 s3 : Int) (h : Fit m s1 s2) : ∃ v a b c, spec_l01Cur_mode.f l0 s1 s2 s3 = some (v, a, b, c) ∧ Fit (m + 2) a b := by
 obtain ⟨v, a, b, c, e, _, _, g⟩ := pick_told l0 hw hl m hm s1 s2 s3 h 10 (by decide) (by decide)
 unfold spec_l01Cur_mode.f
 rw [e, Option.bind_some]
 by_cases c1 : v = 9
 ·exact ⟨_, a, b, c, if_pos c1, g⟩
 by_cases c2 : v = 7
 ·exact ⟨_, a, b, c, (if_neg c1).trans (if_pos c2), g⟩
 by_cases c3 : v = 8
 ·exact ⟨_, a, b, c, (if_neg c1).trans ((if_neg c2).trans (if_pos c3)), g⟩
 ·exact ⟨_, a, b, c, (if_neg c1).trans ((if_neg c2).trans (if_neg c3)), g⟩
omit hw hl in
theorem rdOf_small (y : List ByteArray) (N : Nat) (hy : (y.all fun x => Nat.ble x.size N) = true) (v : Int) : (rdOf ByteArray.empty y v).size ≤ N := by
 unfold rdOf
 by_cases h : v.toNat < y.length
 ·have : y.getD v.toNat ByteArray.empty = y[v.toNat] := by simp [List.getD, h]
  rw [this]
  exact Nat.le_of_ble_eq_true (List.all_eq_true.1 hy _ (List.getElem_mem h))
 ·have : y.getD v.toNat ByteArray.empty = ByteArray.empty := by simp [List.getD, List.getElem?_eq_none (Nat.le_of_not_lt h)]
  rw [this]; exact Nat.zero_le _
/-- One of a row of texts. -/
theorem one_of {α : Type} (m : Nat) (hm : m ≤ 1000000) (s1 s2 s3 : Int) (h : Fit m s1 s2) (y : List ByteArray) (h1 : 0 < y.length) (h2 : y.length ≤ 256) (F : List ByteArray → Int × Int × Int × Int → Option α) (Q : α → Prop)
  (hF : ∀ v a b c, Fit (m + 2) a b → ∃ r, F y (v, a, b, c) = some r ∧ Q r) :
  ∃ r, ((some y).bind fun z => (spec_l01Cur_pick.f l0 s1 s2 s3 (z.length : Int)).bind fun bt => if 0 ≤ bt.1 then (if bt.1 < (z.length : Int) then F z bt else none) else none) = some r ∧ Q r := by
 obtain ⟨v, a, b, c, e, g1, g2, g3⟩ := pick_told l0 hw hl m hm s1 s2 s3 h (y.length : Int) (by omega) (by omega)
 obtain ⟨r, hr, hq⟩ := hF v a b c g3
 refine ⟨r, ?_, hq⟩
 rw [Option.bind_some, e, Option.bind_some, if_pos g1, if_pos g2, hr]
theorem name_drawn (m : Nat) (hm : m ≤ 1000000) (s1 s2 s3 : Int) (h : Fit m s1 s2) : ∃ r, spec_l02DrawName.f l0 s1 s2 s3 = some r ∧ (r.1.size ≤ 20 ∧ Fit (m + 2) r.2.1 r.2.2.1) := by
 unfold spec_l02DrawName.f
 refine one_of (α := ByteArray × Int × Int × Int) l0 hw hl m hm s1 s2 s3 h _ ?_ ?_ _ (fun r => r.1.size ≤ 20 ∧ Fit (m + 2) r.2.1 r.2.2.1) (fun v a b c g => ⟨_, rfl, ?_, ?_⟩)
 ·decide
 ·decide
 ·exact rdOf_small _ 20 rfl v
 ·exact g
/-- A text is drawn. -/
theorem text_loop (y : List ByteArray) (h1 : 0 < y.length) (h2 : y.length ≤ 256) (hy : (y.all fun x => Nat.ble x.size 20) = true) : ∀ (n m : Nat) (t : ByteArray) (s1 s2 s3 : Int), m + 2 * n ≤ 1000000 → Fit m s1 s2 → t.size + 20 * n ≤ 200 →
  ∃ r, Ev (fun k => spec_l01DrawText.l0 k y t (n : Int) l0 s1 s2 s3) r ∧ (r.1.size ≤ 200 ∧ Fit (m + 2 * n) r.2.1 r.2.2.1)
 | 0, m, t, s1, s2, s3, hm, h, ht => by
  refine ⟨(t, s1, s2, s3), Ev.succ (Ev.now _) (fun k => ?_), by omega, h⟩
  rw [spec_l01DrawText.l0, if_neg (by decide)]
 | n + 1, m, t, s1, s2, s3, hm, h, ht => by
  obtain ⟨v, a, b, c, e, g1, g2, g3⟩ := pick_told l0 hw hl m (by omega) s1 s2 s3 h (y.length : Int) (by omega) (by omega)
  have hz := rdOf_small y 20 hy v
  obtain ⟨r, hr, hq1, hq2⟩ := text_loop y h1 h2 hy n (m + 2) (t ++ rdOf ByteArray.empty y v) a b c (by omega) g3 (by rw [ByteArray.size_append]; omega)
  refine ⟨r, Ev.succ hr (fun k => ?_), hq1, hq2.more (by omega)⟩
  have hu : wrap64 (((n + 1 : Nat) : Int) - 1) = (n : Int) := by rw [w64i _ (by omega) (by omega)]; omega
  rw [spec_l01DrawText.l0, if_pos (by omega), e, Option.bind_some, if_pos g1, if_pos g2, if_pos (by show t.size + (rdOf ByteArray.empty y v).size ≤ _; omega), hu]
theorem text_drawn (m : Nat) (hm : m ≤ 950000) (s1 s2 s3 : Int) (h : Fit m s1 s2) : ∃ r, Ev (fun k => spec_l01DrawText.f k l0 s1 s2 s3) r ∧ (r.1.size ≤ 200 ∧ Fit (m + 12) r.2.1 r.2.2.1) := by
 obtain ⟨v, a, b, c, e, g1, g2, g3⟩ := pick_told l0 hw hl m (by omega) s1 s2 s3 h 5 (by decide) (by decide)
 obtain ⟨n, rfl⟩ := Int.eq_ofNat_of_zero_le g1
 have hn : n ≤ 4 := by omega
 obtain ⟨r, hr, hq1, hq2⟩ := text_loop l0 hw hl [(⟨#[97]⟩ : ByteArray), (⟨#[98]⟩ : ByteArray), (⟨#[65]⟩ : ByteArray), (⟨#[32]⟩ : ByteArray), (⟨#[37]⟩ : ByteArray), (⟨#[95]⟩ : ByteArray), (⟨#[92]⟩ : ByteArray), (⟨#[39]⟩ : ByteArray), (⟨#[195, 169]⟩ : ByteArray), (⟨#[230, 176, 180]⟩ : ByteArray), (⟨#[45, 49, 50]⟩ : ByteArray), (⟨#[51, 46, 53]⟩ : ByteArray), (⟨#[116, 114, 117, 101]⟩ : ByteArray), (⟨#[50, 48, 50, 48, 45, 48, 50, 45, 50, 57]⟩ : ByteArray), (⟨#[240, 159, 152, 128]⟩ : ByteArray), (⟨#[120, 121, 122]⟩ : ByteArray), (⟨#[48]⟩ : ByteArray), (⟨#[57]⟩ : ByteArray)] (by decide) (by decide) rfl n (m + 2) ⟨#[]⟩ a b c (by omega) g3 (by show 0 + _ ≤ _; omega)
 refine ⟨r, Ev.eq hr (fun k => ?_), hq1, hq2.more (by omega)⟩
 unfold spec_l01DrawText.f
 rw [e, Option.bind_some]
/-- A token is drawn. -/
theorem tok_drawn (m : Nat) (hm : m ≤ 900000) (s1 s2 s3 : Int) (h : Fit m s1 s2) : ∃ r, Ev (fun k => spec_l02DrawToken.f k l0 s1 s2 s3) r ∧ (r.2.1.size ≤ 200 ∧ Fit (m + 16) r.2.2.2.1 r.2.2.2.2.1) := by
 obtain ⟨v, a, b, c, e, g1, g2, g3⟩ := pick_told l0 hw hl m (by omega) s1 s2 s3 h 8 (by decide) (by decide)
 have key : ∀ x : Bool, ∃ r, Ev (fun k => spec_l02DrawToken.j0 k v x l0 a b c) r ∧ (r.2.1.size ≤ 200 ∧ Fit (m + 16) r.2.2.2.1 r.2.2.2.2.1) := by
  intro x
  have now : ∀ G : Option (Int × ByteArray × Int × Int × Int × Int), (∃ r, G = some r ∧ (r.2.1.size ≤ 200 ∧ Fit (m + 16) r.2.2.2.1 r.2.2.2.2.1)) → (∀ k, spec_l02DrawToken.j0 (k + 1) v x l0 a b c = G) → ∃ r, Ev (fun k => spec_l02DrawToken.j0 k v x l0 a b c) r ∧ (r.2.1.size ≤ 200 ∧ Fit (m + 16) r.2.2.2.1 r.2.2.2.2.1) := by
   rintro G ⟨r, hG, hq⟩ hk
   exact ⟨r, Ev.succ (Ev.now r) (fun k => by rw [hk, hG]), hq⟩
  by_cases hx : x = true
  ·refine now _ ?_ (fun k => by rw [spec_l02DrawToken.j0, if_pos hx])
   refine one_of (α := Int × ByteArray × Int × Int × Int × Int) l0 hw hl (m + 2) (by omega) a b c g3 _ ?_ ?_ _ (fun r => r.2.1.size ≤ 200 ∧ Fit (m + 16) r.2.2.2.1 r.2.2.2.2.1) (fun v a b c g => ⟨_, rfl, ?_, ?_⟩)
   ·decide
   ·decide
   ·exact rdOf_small _ 200 rfl v
   ·exact Fit.more g (by omega)
  by_cases h2 : v = 2
  ·obtain ⟨r, hr, q1, q2⟩ := name_drawn l0 hw hl (m + 2) (by omega) a b c g3
   refine now _ ⟨(2, r.1, 0, r.2.1, r.2.2.1, r.2.2.2), ?_, by show r.1.size ≤ 200; omega, q2.more (by omega)⟩ (fun k => by rw [spec_l02DrawToken.j0, if_neg hx, if_pos h2])
   rw [hr, Option.bind_some]
  by_cases h3 : v = 3
  ·refine now _ ?_ (fun k => by rw [spec_l02DrawToken.j0, if_neg hx, if_neg h2, if_pos h3])
   refine one_of (α := Int × ByteArray × Int × Int × Int × Int) l0 hw hl (m + 2) (by omega) a b c g3 _ ?_ ?_ _ (fun r => r.2.1.size ≤ 200 ∧ Fit (m + 16) r.2.2.2.1 r.2.2.2.2.1) (fun v a b c g => ⟨_, rfl, ?_, ?_⟩)
   ·decide
   ·decide
   ·exact rdOf_small _ 200 rfl v
   ·exact Fit.more g (by omega)
  by_cases h4 : v = 4
  ·refine now _ ?_ (fun k => by rw [spec_l02DrawToken.j0, if_neg hx, if_neg h2, if_neg h3, if_pos h4])
   refine one_of (α := Int × ByteArray × Int × Int × Int × Int) l0 hw hl (m + 2) (by omega) a b c g3 _ ?_ ?_ _ (fun r => r.2.1.size ≤ 200 ∧ Fit (m + 16) r.2.2.2.1 r.2.2.2.2.1) (fun v a b c g => ⟨_, rfl, ?_, ?_⟩)
   ·decide
   ·decide
   ·exact rdOf_small _ 200 rfl v
   ·exact Fit.more g (by omega)
  by_cases h5 : v = 5
  ·obtain ⟨r, hr, q1, q2⟩ := text_drawn l0 hw hl (m + 2) (by omega) a b c g3
   refine ⟨(5, r.1, 0, r.2.1, r.2.2.1, r.2.2.2), Ev.succ (Ev.bind (g := fun _ bt => some (5, bt.1, 0, bt.2.1, bt.2.2.1, bt.2.2.2)) hr (Ev.now _)) (fun k => ?_), q1, q2.more (by omega)⟩
   rw [spec_l02DrawToken.j0, if_neg hx, if_neg h2, if_neg h3, if_neg h4, if_pos h5]
  ·refine now _ ?_ (fun k => by rw [spec_l02DrawToken.j0, if_neg hx, if_neg h2, if_neg h3, if_neg h4, if_neg h5])
   refine one_of (α := Int × ByteArray × Int × Int × Int × Int) l0 hw hl (m + 2) (by omega) a b c g3 _ ?_ ?_ _ (fun r => r.2.1.size ≤ 200 ∧ Fit (m + 16) r.2.2.2.1 r.2.2.2.2.1) (fun v a b c g => ⟨_, rfl, ?_, ?_⟩)
   ·decide
   ·decide
   ·exact rdOf_small _ 200 rfl v
   ·exact Fit.more g (by omega)
 by_cases h0 : v = 0
 ·obtain ⟨r, hr, hq⟩ := key (v == 0)
  refine ⟨r, Ev.eq hr (fun k => ?_), hq⟩
  unfold spec_l02DrawToken.f
  rw [e, Option.bind_some]
  exact if_pos h0
 ·obtain ⟨r, hr, hq⟩ := key (v == 1)
  refine ⟨r, Ev.eq hr (fun k => ?_), hq⟩
  unfold spec_l02DrawToken.f
  rw [e, Option.bind_some]
  exact if_neg h0
/-- No text is longer than this. -/
def Small (N : Nat) (l : List S35) : Prop := ∀ x ∈ l, x.f1.size ≤ N
omit hw hl in
theorem Small.snoc {N : Nat} {l : List S35} (h : Small N l) {x : S35} (hx : x.f1.size ≤ N) : Small N (l ++ [x]) := by
 intro z hz
 rcases List.mem_append.1 hz with h9 | h9
 ·exact h z h9
 ·rw [List.mem_singleton.1 h9]; exact hx
theorem list_loop : ∀ (n i m : Nat) (acc : List S35) (T : Nat) (s1 s2 s3 : Int), i + n = T → T ≤ 60 → acc.length = i → m + 20 * n ≤ 900000 → Fit m s1 s2 → Small 200 acc →
  ∃ r, Ev (fun k => spec_l02DrawList.l0 k acc (T : Int) (i : Int) l0 s1 s2 s3) r ∧ (r.1.length ≤ 60 ∧ Small 200 r.1 ∧ Fit (m + 20 * n) r.2.1 r.2.2.1)
 | 0, i, m, acc, T, s1, s2, s3, hT, hT2, ha, hm, h, hS => by
  refine ⟨(acc, s1, s2, s3), Ev.succ (Ev.now _) (fun k => ?_), (by show acc.length ≤ 60; omega), hS, h⟩
  rw [spec_l02DrawList.l0, if_neg (by omega)]
 | n + 1, i, m, acc, T, s1, s2, s3, hT, hT2, ha, hm, h, hS => by
  obtain ⟨⟨k0, t, p, a, b, c⟩, hr, q1, q2⟩ := tok_drawn l0 hw hl m (by omega) s1 s2 s3 h
  obtain ⟨v, a2, b2, c2, e, g1, g2, g3⟩ := pick_told l0 hw hl (m + 16) (by omega) a b c q2 50 (by decide) (by decide)
  obtain ⟨r, hr2, z1, z2, z3⟩ := list_loop n (i + 1) (m + 18) (acc ++ [(⟨k0, t, v⟩ : S35)]) T a2 b2 c2 (by omega) hT2 (by rw [List.length_append, List.length_singleton, ha]) (by omega) (g3.more (by omega)) (hS.snoc q1)
  refine ⟨r, Ev.succ (Ev.bind (g := fun k bt318 => ((spec_l01Cur_pick.f l0 bt318.2.2.2.1 bt318.2.2.2.2.1 bt318.2.2.2.2.2 50).bind fun bt325 => (if acc.length < 4398046511104 then (spec_l02DrawList.l0 k (acc ++ [(⟨bt318.1, bt318.2.1, bt325.1⟩ : S35)]) (T : Int) (wrap64 ((i : Int) + 1)) l0 bt325.2.1 bt325.2.2.1 bt325.2.2.2) else (none)))) hr (Ev.eq hr2 (fun k => ?_))) (fun k => ?_), z1, z2, z3.more (by omega)⟩
  ·show ((spec_l01Cur_pick.f l0 a b c 50).bind _) = _
   rw [e, Option.bind_some, if_pos (by omega), up1 i (by omega)]
  ·rw [spec_l02DrawList.l0, if_pos (by omega)]
theorem list_drawn (m : Nat) (hm : m ≤ 800000) (s1 s2 s3 : Int) (h : Fit m s1 s2) : ∃ r, Ev (fun k => spec_l02DrawList.f k l0 s1 s2 s3) r ∧ (r.1.length ≤ 60 ∧ Small 200 r.1 ∧ Fit (m + 1300) r.2.1 r.2.2.1) := by
 obtain ⟨v, a, b, c, e, g1, g2, g3⟩ := pick_told l0 hw hl m (by omega) s1 s2 s3 h 12 (by decide) (by decide)
 obtain ⟨n, rfl⟩ := Int.eq_ofNat_of_zero_le g1
 have key : ∀ T : Nat, T ≤ 60 → ∃ r, Ev (fun k => spec_l02DrawList.j0 k [] (T : Int) l0 a b c) r ∧ (r.1.length ≤ 60 ∧ Small 200 r.1 ∧ Fit (m + 1300) r.2.1 r.2.2.1) := fun T hT => by
  obtain ⟨r, hr, z1, z2, z3⟩ := list_loop l0 hw hl T 0 (m + 2) [] T a b c (by omega) hT rfl (by omega) g3 (by intro x hx; cases hx)
  exact ⟨r, Ev.succ hr (fun k => rfl), z1, z2, z3.more (by omega)⟩
 by_cases h11 : (n : Int) = 11
 ·obtain ⟨r, hr, hq⟩ := key 60 (Nat.le_refl _)
  refine ⟨r, Ev.eq hr (fun k => ?_), hq⟩
  unfold spec_l02DrawList.f
  rw [Option.bind_some, e, Option.bind_some]
  exact if_pos h11
 ·obtain ⟨r, hr, hq⟩ := key n (by omega)
  refine ⟨r, Ev.eq hr (fun k => ?_), hq⟩
  unfold spec_l02DrawList.f
  rw [Option.bind_some, e, Option.bind_some]
  exact if_neg h11
omit hw hl in
theorem times_loop (x : ByteArray) (hx : x.size ≤ 4) : ∀ (n i T : Nat) (acc : List Int), i + n = T → T ≤ 250 → acc.length ≤ 4 * i → ∃ r : ByteArray, Ev (fun k => spec_l01Times.l0 k x (T : Int) acc (i : Int)) r ∧ r.size ≤ 1000
 | 0, i, T, acc, hT, hT2, ha => by
  refine ⟨strOfNums acc, Ev.succ (Ev.now _) (fun k => ?_), ?_⟩
  ·rw [spec_l01Times.l0, if_neg (by omega)]
  ·have : (strOfNums acc).size = acc.length := by unfold strOfNums; rw [size_mk]; simp
   omega
 | n + 1, i, T, acc, hT, hT2, ha => by
  have hb : (bytesOf x).length = x.size := by rw [numL_bytes, numL_len, size_len]
  obtain ⟨r, hr, hq⟩ := times_loop x hx n (i + 1) T (acc ++ bytesOf x) (by omega) hT2 (by rw [List.length_append, hb]; omega)
  refine ⟨r, Ev.succ hr (fun k => ?_), hq⟩
  rw [spec_l01Times.l0, if_pos (by omega), if_pos (by omega), up1 i (by omega)]
omit hw hl in
theorem times_drawn (T : Nat) (hT : T ≤ 250) : ∃ r : ByteArray, Ev (fun k => spec_l01Times.f k ⟨#[120]⟩ (T : Int)) r ∧ r.size ≤ 1000 := by
 obtain ⟨r, hr, hq⟩ := times_loop ⟨#[120]⟩ (by decide) T 0 T [] (by omega) hT (by simp)
 exact ⟨r, Ev.eq hr (fun k => rfl), hq⟩
/-- Signs are added until the row is full. -/
theorem fill_loop : ∀ (n m : Nat) (l : List S35) (s1 s2 s3 : Int), 2001 - l.length ≤ n → m + 2 * n + 2 ≤ 900000 → Fit m s1 s2 → Small 1000 l → l.length ≤ 5000 → ∃ r, Ev (fun k => spec_DrawUnlex.l0 k l l0 s1 s2 s3) r ∧ Small 1000 r
 | n, m, l, s1, s2, s3, hn, hm, h, hS, hlen => by
  obtain ⟨v, a, b, c, e, g1, g2, g3⟩ := pick_told l0 hw hl m (by omega) s1 s2 s3 h 2 (by decide) (by decide)
  have hu : wrap64 (2000 + v) = 2000 + v := w64i _ (by omega) (by omega)
  by_cases hlt : (l.length : Int) < 2000 + v
  ·obtain ⟨n, rfl⟩ : ∃ z, n = z + 1 := ⟨n - 1, by omega⟩
   obtain ⟨r, hr, hq⟩ := fill_loop n (m + 2) (l ++ [(⟨6, (⟨#[59]⟩ : ByteArray), 0⟩ : S35)]) a b c (by rw [List.length_append, List.length_singleton]; omega) (by omega) g3 (hS.snoc (show (1 : Nat) ≤ 1000 by decide)) (by rw [List.length_append, List.length_singleton]; omega)
   refine ⟨r, Ev.succ hr (fun k => ?_), hq⟩
   rw [spec_DrawUnlex.l0, e, Option.bind_some]
   show (if (l.length : Int) < wrap64 (2000 + v) then _ else _) = _
   rw [hu, if_pos hlt, if_pos (by omega)]
  ·refine ⟨l, Ev.succ (Ev.now _) (fun k => ?_), hS⟩
   rw [spec_DrawUnlex.l0, e, Option.bind_some]
   show (if (l.length : Int) < wrap64 (2000 + v) then _ else _) = _
   rw [hu, if_neg hlt]
/-- Forty long texts are added. -/
theorem long_loop : ∀ (n i m : Nat) (l : List S35) (s1 s2 s3 : Int), i + n = 40 → m + 2 * n ≤ 900000 → Fit m s1 s2 → Small 1000 l → l.length ≤ 100 + i → ∃ r, Ev (fun k => spec_DrawUnlex.l1 k l (i : Int) l0 s1 s2 s3) r ∧ Small 1000 r
 | 0, i, m, l, s1, s2, s3, hi, hm, h, hS, hlen => by
  refine ⟨l, Ev.succ (Ev.now _) (fun k => ?_), hS⟩
  rw [spec_DrawUnlex.l1, if_neg (by omega)]
 | n + 1, i, m, l, s1, s2, s3, hi, hm, h, hS, hlen => by
  obtain ⟨v, a, b, c, e, g1, g2, g3⟩ := pick_told l0 hw hl m (by omega) s1 s2 s3 h 20 (by decide) (by decide)
  obtain ⟨z, rfl⟩ := Int.eq_ofNat_of_zero_le g1
  have hu : wrap64 (190 + (z : Int)) = ((190 + z : Nat) : Int) := by rw [w64i _ (by omega) (by omega)]; omega
  obtain ⟨t, ht, hts⟩ := times_drawn (190 + z) (by omega)
  obtain ⟨r, hr, hq⟩ := long_loop n (i + 1) (m + 2) (l ++ [(⟨5, t, 0⟩ : S35)]) a b c (by omega) (by omega) g3 (hS.snoc hts) (by rw [List.length_append, List.length_singleton]; omega)
  refine ⟨r, Ev.succ (Ev.bind (g := fun k t396 => (if l.length < 4398046511104 then (spec_DrawUnlex.l1 k (l ++ [(⟨5, t396, 0⟩ : S35)]) (wrap64 ((i : Int) + 1)) l0 a b c) else (none))) ht (Ev.eq hr (fun k => ?_))) (fun k => ?_), hq⟩
  ·show (if l.length < 4398046511104 then _ else none) = _
   rw [if_pos (by omega), up1 i (by omega)]
  ·rw [spec_DrawUnlex.l1, if_pos (by omega), e, Option.bind_some, ← hu]
theorem end_drawn (m : Nat) (hm : m ≤ 800000) (x4 : Int) (l : List S35) (s1 s2 s3 : Int) (h : Fit m s1 s2) (hS : Small 1000 l) (hlen : l.length ≤ 60) : ∃ r, Ev (fun k => spec_DrawUnlex.j1 k x4 l l0 s1 s2 s3) r ∧ Small 1000 r := by
 by_cases h2 : x4 = 2
 ·obtain ⟨v, a, b, c, e, g1, g2, g3⟩ := pick_told l0 hw hl m (by omega) s1 s2 s3 h 2 (by decide) (by decide)
  by_cases h0 : v = 0
  ·obtain ⟨r, hr, hq⟩ := fill_loop l0 hw hl 2001 (m + 2) l a b c (by omega) (by omega) g3 hS (by omega)
   refine ⟨r, Ev.succ hr (fun k => ?_), hq⟩
   rw [spec_DrawUnlex.j1, if_pos h2, e, Option.bind_some]
   exact if_pos h0
  ·obtain ⟨r, hr, hq⟩ := long_loop l0 hw hl 40 0 (m + 2) l a b c (by omega) (by omega) g3 hS (by omega)
   refine ⟨r, Ev.succ hr (fun k => ?_), hq⟩
   rw [spec_DrawUnlex.j1, if_pos h2, e, Option.bind_some]
   exact if_neg h0
 ·refine ⟨l, Ev.succ (Ev.now _) (fun k => ?_), hS⟩
  rw [spec_DrawUnlex.j1, if_neg h2]
omit hw hl in
theorem Small.put {l : List S35} (h : Small 200 l) (i : Nat) {x : S35} (hx : x.f1.size ≤ 1000) : Small 1000 (l.set i x) := by
 intro z hz
 rcases List.mem_or_eq_of_mem_set hz with h9 | h9
 ·exact Nat.le_trans (h z h9) (by decide)
 ·rw [h9]; exact hx
omit hw hl in
theorem Small.rd {l : List S35} (h : Small 200 l) (v : Int) : (rd_T35 l v).f1.size ≤ 200 := by
 unfold rd_T35
 by_cases h9 : v.toNat < l.length
 ·have : l.getD v.toNat z35 = l[v.toNat] := by simp [List.getD, h9]
  rw [this]; exact h _ (List.getElem_mem h9)
 ·have : l.getD v.toNat z35 = z35 := by simp [List.getD, List.getElem?_eq_none (Nat.le_of_not_lt h9)]
  rw [this]; exact Nat.zero_le _
/-- One token may be spoilt. -/
theorem spoil_drawn (m : Nat) (hm : m ≤ 700000) (x4 : Int) (l : List S35) (x : Bool) (hx : x = true → 0 < l.length) (s1 s2 s3 : Int) (h : Fit m s1 s2) (hS : Small 200 l) (hlen : l.length ≤ 60) : ∃ r, Ev (fun k => spec_DrawUnlex.j0 k x4 l x l0 s1 s2 s3) r ∧ Small 1000 r := by
 have hS1 : Small 1000 l := fun z hz => Nat.le_trans (hS z hz) (by decide)
 by_cases hxt : x = true
 ·obtain ⟨v, a, b, c, e, g1, g2, g3⟩ := pick_told l0 hw hl m (by omega) s1 s2 s3 h (l.length : Int) (by have := hx hxt; omega) (by omega)
  obtain ⟨u, a2, b2, c2, e2, f1, f2, f3⟩ := pick_told l0 hw hl (m + 2) (by omega) a b c g3 3 (by decide) (by decide)
  by_cases h0 : u = 0
  ·obtain ⟨w, a3, b3, c3, e3, d1, d2, d3⟩ := pick_told l0 hw hl (m + 2 + 2) (by omega) a2 b2 c2 f3 9 (by decide) (by decide)
   obtain ⟨r, hr, hq⟩ := end_drawn l0 hw hl (m + 2 + 2 + 2) (by omega) x4 (l.set v.toNat ⟨wrap64 (w - 1), (rd_T35 l v).f1, (rd_T35 l v).f2⟩) a3 b3 c3 d3 (hS.put _ (Nat.le_trans (hS.rd v) (by decide))) (by rw [List.length_set]; omega)
   refine ⟨r, Ev.succ hr (fun k => ?_), hq⟩
   rw [spec_DrawUnlex.j0, if_pos hxt, e, Option.bind_some, e2, Option.bind_some]
   refine (if_pos h0).trans ?_
   rw [e3, Option.bind_some, if_pos g1, if_pos g2]
  by_cases h1 : u = 1
  ·obtain ⟨r, hr, hq⟩ : ∃ r, Ev (fun k => ((some (([(⟨#[65]⟩ : ByteArray), (⟨#[255]⟩ : ByteArray), (⟨#[32]⟩ : ByteArray), (⟨#[48]⟩ : ByteArray), (⟨#[34]⟩ : ByteArray)] : List ByteArray) : List ByteArray)).bind fun y363 => ((spec_l01Cur_pick.f l0 a2 b2 c2 5).bind fun bt366 => (if 0 ≤ bt366.1 then (if bt366.1 < (y363.length : Int) then (if ((rd_T35 l v).f1).size + (rdOf ByteArray.empty y363 bt366.1).size ≤ 9223372036854775807 then (spec_DrawUnlex.j1 k x4 (l.set (v : Int).toNat (⟨(rd_T35 l v).f0, ((rd_T35 l v).f1) ++ (rdOf ByteArray.empty y363 bt366.1), (rd_T35 l v).f2⟩ : S35)) l0 bt366.2.1 bt366.2.2.1 bt366.2.2.2) else (none)) else (none)) else (none))))) r ∧ Small 1000 r := by
    obtain ⟨w, a3, b3, c3, e3, d1, d2, d3⟩ := pick_told l0 hw hl (m + 2 + 2) (by omega) a2 b2 c2 f3 5 (by decide) (by decide)
    have hz := rdOf_small ([(⟨#[65]⟩ : ByteArray), (⟨#[255]⟩ : ByteArray), (⟨#[32]⟩ : ByteArray), (⟨#[48]⟩ : ByteArray), (⟨#[34]⟩ : ByteArray)]) 20 rfl w
    have hz2 := hS.rd v
    obtain ⟨r, hr, hq⟩ := end_drawn l0 hw hl (m + 2 + 2 + 2) (by omega) x4 _ a3 b3 c3 d3 (hS.put v.toNat (x := ⟨(rd_T35 l v).f0, ((rd_T35 l v).f1) ++ (rdOf ByteArray.empty ([(⟨#[65]⟩ : ByteArray), (⟨#[255]⟩ : ByteArray), (⟨#[32]⟩ : ByteArray), (⟨#[48]⟩ : ByteArray), (⟨#[34]⟩ : ByteArray)]) w), (rd_T35 l v).f2⟩) (by rw [ByteArray.size_append]; omega)) (by rw [List.length_set]; omega)
    refine ⟨r, Ev.eq hr (fun k => ?_), hq⟩
    rw [Option.bind_some, e3, Option.bind_some, if_pos d1]
    refine (if_pos d2).trans ?_
    exact if_pos (show (rd_T35 l v).f1.size + (rdOf ByteArray.empty ([(⟨#[65]⟩ : ByteArray), (⟨#[255]⟩ : ByteArray), (⟨#[32]⟩ : ByteArray), (⟨#[48]⟩ : ByteArray), (⟨#[34]⟩ : ByteArray)]) w).size ≤ 9223372036854775807 by omega)
   refine ⟨r, Ev.succ hr (fun k => ?_), hq⟩
   rw [spec_DrawUnlex.j0, if_pos hxt, e, Option.bind_some, e2, Option.bind_some]
   refine (if_neg h0).trans ((if_pos h1).trans ?_)
   rw [if_pos g1, if_pos g2]
  by_cases h2 : u = 2
  ·obtain ⟨r, hr, hq⟩ : ∃ r, Ev (fun k => ((some (([(⟨#[]⟩ : ByteArray), (⟨#[48, 48, 55]⟩ : ByteArray), (⟨#[33, 61]⟩ : ByteArray), (⟨#[49, 46, 53, 48, 48, 48, 48]⟩ : ByteArray), (⟨#[45, 49]⟩ : ByteArray)] : List ByteArray) : List ByteArray)).bind fun y372 => ((spec_l01Cur_pick.f l0 a2 b2 c2 5).bind fun bt375 => (if 0 ≤ bt375.1 then (if bt375.1 < (y372.length : Int) then (if 0 ≤ v then (if v < (l.length : Int) then (spec_DrawUnlex.j1 k x4 (l.set (v : Int).toNat (⟨(rd_T35 l v).f0, rdOf ByteArray.empty y372 bt375.1, (rd_T35 l v).f2⟩ : S35)) l0 bt375.2.1 bt375.2.2.1 bt375.2.2.2) else (none)) else (none)) else (none)) else (none))))) r ∧ Small 1000 r := by
    obtain ⟨w, a3, b3, c3, e3, d1, d2, d3⟩ := pick_told l0 hw hl (m + 2 + 2) (by omega) a2 b2 c2 f3 5 (by decide) (by decide)
    have hz := rdOf_small ([(⟨#[]⟩ : ByteArray), (⟨#[48, 48, 55]⟩ : ByteArray), (⟨#[33, 61]⟩ : ByteArray), (⟨#[49, 46, 53, 48, 48, 48, 48]⟩ : ByteArray), (⟨#[45, 49]⟩ : ByteArray)]) 20 rfl w
    obtain ⟨r, hr, hq⟩ := end_drawn l0 hw hl (m + 2 + 2 + 2) (by omega) x4 _ a3 b3 c3 d3 (hS.put v.toNat (x := ⟨(rd_T35 l v).f0, rdOf ByteArray.empty ([(⟨#[]⟩ : ByteArray), (⟨#[48, 48, 55]⟩ : ByteArray), (⟨#[33, 61]⟩ : ByteArray), (⟨#[49, 46, 53, 48, 48, 48, 48]⟩ : ByteArray), (⟨#[45, 49]⟩ : ByteArray)]) w, (rd_T35 l v).f2⟩) (Nat.le_trans hz (by decide))) (by rw [List.length_set]; omega)
    refine ⟨r, Ev.eq hr (fun k => ?_), hq⟩
    rw [Option.bind_some, e3, Option.bind_some, if_pos d1]
    refine (if_pos d2).trans ?_
    rw [if_pos g1, if_pos g2]
   refine ⟨r, Ev.succ hr (fun k => ?_), hq⟩
   rw [spec_DrawUnlex.j0, if_pos hxt, e, Option.bind_some, e2, Option.bind_some]
   exact (if_neg h0).trans ((if_neg h1).trans (if_pos h2))
  ·exfalso; omega
 ·obtain ⟨r, hr, hq⟩ := end_drawn l0 hw hl m (by omega) x4 l s1 s2 s3 h hS1 hlen
  refine ⟨r, Ev.succ hr (fun k => ?_), hq⟩
  rw [spec_DrawUnlex.j0, if_neg hxt]
/-- The drawing ends, and no text is long. -/
theorem drawn : ∃ r, Ev (fun k => spec_DrawUnlex.f k l0) r ∧ Small 1000 r := by
 obtain ⟨v, a, b, c, e, g⟩ := mode_told l0 hw hl 0 (by decide) 0 0 0 ⟨by decide, by decide, by decide, by decide⟩
 obtain ⟨⟨l, a2, b2, c2⟩, hr, z1, z2, z3⟩ := list_drawn l0 hw hl 2 (by decide) a b c g
 have z1' : l.length ≤ 60 := z1
 have key : ∀ x : Bool, (x = true → 0 < l.length) → ∃ r, Ev (fun k => spec_DrawUnlex.j0 k v l x l0 a2 b2 c2) r ∧ Small 1000 r := fun x hx => spoil_drawn l0 hw hl (2 + 1300) (by decide) v l x hx a2 b2 c2 z3 z2 z1'
 by_cases h1 : v = 1
 ·obtain ⟨r, hr2, hq⟩ := key (decide ((l.length : Int) > 0)) (fun h9 => by have := of_decide_eq_true h9; omega)
  refine ⟨r, Ev.eq (Ev.bind (g := fun k bt343 => (if v = 1 then (spec_DrawUnlex.j0 k v bt343.1 (decide ((bt343.1.length : Int) > 0)) l0 bt343.2.1 bt343.2.2.1 bt343.2.2.2) else (spec_DrawUnlex.j0 k v bt343.1 false l0 bt343.2.1 bt343.2.2.1 bt343.2.2.2))) hr (Ev.eq hr2 (fun k => if_pos h1))) (fun k => ?_), hq⟩
  unfold spec_DrawUnlex.f
  rw [e, Option.bind_some]
 ·obtain ⟨r, hr2, hq⟩ := key false (fun h9 => by cases h9)
  refine ⟨r, Ev.eq (Ev.bind (g := fun k bt343 => (if v = 1 then (spec_DrawUnlex.j0 k v bt343.1 (decide ((bt343.1.length : Int) > 0)) l0 bt343.2.1 bt343.2.2.1 bt343.2.2.2) else (spec_DrawUnlex.j0 k v bt343.1 false l0 bt343.2.1 bt343.2.2.1 bt343.2.2.2))) hr (Ev.eq hr2 (fun k => if_neg h1))) (fun k => ?_), hq⟩
  unfold spec_DrawUnlex.f
  rw [e, Option.bind_some]
end
end Go.Proofs.YtackifpnpkbddaaGreatDoor.PureFl
