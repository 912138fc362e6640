/- Proved: what the reference's and the program's small functions of writing tokens answer, in plain words. -/
import Derived.Test.YtackifpnpkbddaaGreatDoorCharsFl
import Derived.Test.YtackifpnpkbddaaGreatDoorUxX
set_option linter.unusedVariables false
set_option linter.unusedSimpArgs false
set_option linter.unusedSectionVars false
namespace Go.Proofs.YtackifpnpkbddaaGreatDoor.PureFl
open Go.RowKit Go.Lib Go.Proofs.YtackifpnpkbddaaGreatDoor.QFnLexed Go.Proofs.YtackifpnpkbddaaGreatDoorScan Go.Proofs.YtackifpnpkbddaaGreatDoor.CharsFl
open Go.Proofs.YtackifpnpkbddaaGreatDoorW.PrintWords hiding Ev Ev.bind Ev.congr Ev.now Ev.of Ev.rounds Ev.step
open Go.Proofs.YtackifpnpkbddaaGreatDoorW.PrintLast hiding up
theorem sdig_f (c : UInt8) : spec_l02Digit.f (c.toNat : Int) = some (isDig c) := dig_f c
theorem slet_f (c : UInt8) : spec_l02Letter.f (c.toNat : Int) = some (isLet c) := let_f c
theorem idig_f (c : UInt8) : impl_isDigit.f (c.toNat : Int) = some (isDig c) := dig_f c
theorem ilet_f (c : UInt8) : impl_isLetter.f (c.toNat : Int) = some (isLet c) := let_f c
/-- A row of bytes as whole numbers. -/
def numL (m : B) : List Int := m.map fun c => (c.toNat : Int)
theorem numL_str (m : B) : strOfNums (numL m) = ⟨m.toArray⟩ := by
 unfold strOfNums numL
 rw [List.map_map]
 have e : ((fun n : Int => UInt8.ofNat n.toNat) ∘ fun b : UInt8 => (b.toNat : Int)) = id := by funext b; simp
 rw [e, List.map_id]
theorem numL_len (m : B) : (numL m).length = m.length := by unfold numL; simp
theorem numL_snoc (m : B) (c : UInt8) : numL m ++ [(c.toNat : Int)] = numL (m ++ [c]) := by unfold numL; simp
theorem numL_app (m l : B) : numL m ++ numL l = numL (m ++ l) := by unfold numL; simp
theorem numL_bytes (s : ByteArray) : bytesOf s = numL s.data.toList := rfl
theorem data_mk (t : B) : (⟨t.toArray⟩ : ByteArray).data.toList = t := by simp
theorem toList_mk (t : B) : (⟨t.toArray⟩ : ByteArray).toList = t := by rw [ByteArray.toList_eq]
theorem size_mk (t : B) : (⟨t.toArray⟩ : ByteArray).size = t.length := by rw [size_len, data_mk]
theorem mk_L {s : ByteArray} {L : B} (hL : s.data.toList = L) : (⟨L.toArray⟩ : ByteArray) = s := bytes_ext (by rw [data_mk, hL])
section
variable {s : ByteArray} {L : B} (hL : s.data.toList = L) (hs : L.length ≤ 1048576)
include hL hs
/-- Is every byte a printable one. -/
theorem pr_loop : ∀ (f i : Nat), i + f = L.length → spec_l02Printable.l0 (f + 1) s i = some ((L.drop i).all isPr)
 | 0, i, h => by
  unfold spec_l02Printable.l0
  rw [if_neg (by rw [size_L hL]; omega), List.drop_eq_nil_of_le (by omega)]
  rfl
 | f + 1, i, h => by
  have hlt : i < L.length := by omega
  unfold spec_l02Printable.l0
  rw [if_pos (by rw [size_L hL]; omega), if_pos (by omega), bt_L hL hlt, up1 i (by omega), pr_loop f (i + 1) (by omega), drop_cons L i hlt]
  show _ = some (isPr (L.getD i 0) && (L.drop (i + 1)).all isPr)
  obtain ⟨c, hc⟩ : ∃ c, L.getD i 0 = c := ⟨_, rfl⟩
  rw [hc]
  by_cases h1 : (c.toNat : Int) < 32
  ·rw [if_pos h1, show isPr c = false from decide_eq_false (by omega)]; rfl
  ·rw [if_neg h1]
   by_cases h2 : (c.toNat : Int) > 126
   ·rw [if_pos h2, show isPr c = false from decide_eq_false (by omega)]; rfl
   ·rw [if_neg h2, show isPr c = true from decide_eq_true (by omega)]; rfl
theorem pr_told : Ev (fun k => spec_l02Printable.f k s) (L.all isPr) :=
 Ev.of (fun k => spec_l02Printable.mono _ k) ⟨L.length + 1, by
  have := pr_loop hL hs L.length 0 (by omega)
  rw [List.drop_zero] at this
  exact this⟩

/-- The first sign that stands here. -/
def sgO : Option B → ByteArray
 | none => ⟨#[]⟩
 | some g => ⟨g.toArray⟩
omit hL hs in
theorem pre_take (g l : B) : Lib.hasPrefix l g = true ↔ g.length ≤ l.length ∧ l.take g.length = g := by
 unfold Lib.hasPrefix
 rw [List.isPrefixOf_iff_prefix]
 constructor
 ·rintro ⟨r, rfl⟩; simp
 ·rintro ⟨h1, h2⟩; exact ⟨l.drop g.length, by rw [← h2]; simp [Nat.min_eq_left h1]⟩
theorem sgn_loop (at_ : Nat) (hat : at_ ≤ L.length) (gs : List ByteArray) (hg : ∀ g ∈ gs, g.size ≤ 4) (hn : gs.length ≤ 100) : ∀ (f j : Nat), j + f = gs.length →
  spec_l02SignAt.l0 (f + 1) s at_ gs (gs.length : Int) j = some (sgO (sgnF ((gs.drop j).map fun g => g.data.toList) (L.drop at_)))
 | 0, j, h => by
  unfold spec_l02SignAt.l0
  rw [if_neg (by omega), List.drop_eq_nil_of_le (by omega)]
  rfl
 | f + 1, j, h => by
  have hlt : j < gs.length := by omega
  unfold spec_l02SignAt.l0
  have e : rdOf ByteArray.empty gs (j : Int) = gs[j] := by simp [rdOf, List.getD, hlt]
  obtain ⟨g, hgj⟩ : ∃ g, gs[j] = g := ⟨_, rfl⟩
  have hg4 : g.size ≤ 4 := hg g (by rw [← hgj]; exact List.getElem_mem hlt)
  rw [if_pos (by omega), if_pos (by omega), if_pos (by omega), e, hgj, up at_ g.size (by omega), up1 j (by omega), sgn_loop at_ hat gs hg hn f (j + 1) (by omega), List.drop_eq_getElem_cons hlt, List.map_cons, hgj]
  show _ = some (sgO (if Lib.hasPrefix (L.drop at_) g.data.toList = true then some g.data.toList else _))
  have hgs : g.size = g.data.toList.length := rfl
  by_cases h1 : at_ + g.size ≤ L.length
  ·rw [if_pos (by rw [size_L hL]; omega), if_pos (by omega), if_pos (by omega)]
   have e2 : (s.extract (at_ : Int).toNat (((at_ + g.size : Nat) : Int)).toNat).toList = (L.drop at_).take g.data.toList.length := by
    rw [ByteArray.toList_eq, Int.toNat_natCast, Int.toNat_natCast, ext_take, hL, Nat.add_sub_cancel_left]; rfl
   rw [e2, ByteArray.toList_eq]
   by_cases h2 : (L.drop at_).take g.data.toList.length = g.data.toList
   ·rw [if_pos h2, if_pos ((pre_take _ _).2 ⟨by rw [List.length_drop]; omega, h2⟩)]
    show some g = some (⟨g.data.toList.toArray⟩ : ByteArray)
    rw [Array.toArray_toList]
   ·rw [if_neg h2, if_neg (fun h9 => h2 ((pre_take _ _).1 h9).2)]
  ·rw [if_neg (by rw [size_L hL]; omega), if_neg (fun h9 => h1 (by have := ((pre_take _ _).1 h9).1; rw [List.length_drop] at this; omega))]
theorem sgn_told (at_ : Nat) (hat : at_ ≤ L.length) : Ev (fun k => spec_l02SignAt.f k s at_) (sgO (sgnF signB (L.drop at_))) :=
 Ev.of (fun k => spec_l02SignAt.mono _ _ k) ⟨19, by
  have h9 : ∀ g ∈ signL, g.size ≤ 4 := by intro g hg; unfold signL at hg; simp only [List.mem_cons, List.not_mem_nil, or_false] at hg; rcases hg with h | h | h | h | h | h | h | h | h | h | h | h | h | h | h | h | h | h <;> rw [h] <;> exact Nat.le_of_ble_eq_true rfl
  have h8 : signL.length = 18 := rfl
  have := sgn_loop hL hs at_ hat signL h9 (by rw [h8]; decide) 18 0 h8.symm
  unfold spec_l02SignAt.f
  rw [Option.bind_some]
  rw [List.drop_zero, show signL.map (fun g => g.data.toList) = signB from rfl] at this
  unfold signL at this
  exact this⟩

/-- Is it a word. -/
theorem word_loop : ∀ (f i : Nat), i + f = L.length → spec_l02IsWord.l0 (f + 1) s i = some ((L.drop i).all fun c => isWd c && !isGreat c)
 | 0, i, h => by
  rw [spec_l02IsWord.l0, if_neg (by rw [size_L hL]; omega), List.drop_eq_nil_of_le (by omega)]
  rfl
 | f + 1, i, h => by
  have hlt : i < L.length := by omega
  have ih := word_loop f (i + 1) (by omega)
  rw [spec_l02IsWord.l0, if_pos (by rw [size_L hL]; omega), if_pos (by omega), bt_L hL hlt, up1 i (by omega), ih, drop_cons L i hlt, List.all_cons, slet_f, sdig_f]
  obtain ⟨c, hc⟩ : ∃ c, L.getD i 0 = c := ⟨_, rfl⟩
  rw [hc]
  obtain ⟨x, hx⟩ : ∃ x, ((L.drop (i + 1)).all fun c => isWd c && !isGreat c) = x := ⟨_, rfl⟩
  rw [hx, Option.bind_some, Option.bind_some]
  rcases Bool.eq_false_or_eq_true (isLet c) with h1 | h1
  ·rw [if_pos h1, wd_yes1 h1]
   by_cases h2 : (c.toNat : Int) ≥ 65
   ·rw [if_pos h2]
    by_cases h3 : (c.toNat : Int) ≤ 90
    ·rw [if_pos h3, show isGreat c = true from decide_eq_true (by omega)]; rfl
    ·rw [if_neg h3, show isGreat c = false from decide_eq_false (by omega)]; rfl
   ·rw [if_neg h2, show isGreat c = false from decide_eq_false (by omega)]; rfl
  ·rw [if_neg (by rw [h1]; simp)]
   rcases Bool.eq_false_or_eq_true (isDig c) with h4 | h4
   ·have := of_decide_eq_true h4
    rw [if_pos h4, wd_yes2 h4, if_neg (by omega), show isGreat c = false from decide_eq_false (by omega)]; rfl
   ·rw [if_neg (by rw [h4]; simp), wd_no h1 h4]; rfl
theorem word_told : Ev (fun k => spec_l02IsWord.f k s) (wordOK L) := by
 have jy : ∀ k, spec_l02IsWord.j0 (k + 1) s true = some false := fun k => by rw [spec_l02IsWord.j0, if_pos rfl]
 unfold wordOK
 by_cases h1 : (s.size : Int) < 1
 ·rw [decide_eq_false (by rw [size_L hL] at h1; omega)]
  exact Ev.eq (g := fun k => spec_l02IsWord.j0 k s true) (Ev.succ (Ev.now _) jy) (fun k => if_pos h1)
 by_cases h2 : (s.size : Int) > 30
 ·rw [decide_eq_false (by rw [size_L hL] at h2; omega)]
  exact Ev.eq (g := fun k => spec_l02IsWord.j0 k s true) (Ev.succ (Ev.now _) jy) (fun k => (if_neg h1).trans (if_pos h2))
 have hp : 0 < L.length := by rw [size_L hL] at h1; omega
 rw [decide_eq_true (by rw [size_L hL] at h1 h2; omega), Bool.true_and]
 have hb : bt s (0 : Int) = ((L.getD 0 0).toNat : Int) := bt_L hL (i := 0) hp
 refine Ev.eq (g := fun k => spec_l02IsWord.j0 k s (!(isLet (L.getD 0 0)))) ?_ (fun k => by
  unfold spec_l02IsWord.f
  rw [if_neg h1, if_neg h2, if_pos (by rw [size_L hL]; omega), hb, slet_f, Option.bind_some])
 cases hl : isLet (L.getD 0 0)
 ·exact Ev.succ (Ev.now _) jy
 ·rw [Bool.true_and]
  have := word_loop hL hs L.length 0 (by omega)
  rw [List.drop_zero] at this
  exact Ev.of (fun k => (spec_l02IsWord.mono_l k).1 _ _) ⟨L.length + 2, by
   show spec_l02IsWord.j0 (L.length + 1 + 1) s false = _
   rw [spec_l02IsWord.j0, if_neg (by simp)]; exact this⟩
theorem name_told : Ev (fun k => spec_l02IsName.f k s) (nameOK L) := by
 unfold nameOK
 by_cases h1 : (s.size : Int) ≥ 1
 ·by_cases h2 : (s.size : Int) ≤ 30
  ·rw [decide_eq_true (by rw [size_L hL] at h1 h2; omega), Bool.true_and]
   exact Ev.eq (g := fun k => (spec_l02Printable.f k s).bind fun t107 => some t107) (Ev.bind (pr_told hL hs) (Ev.now _)) (fun k => (if_pos h1).trans (if_pos h2))
  ·rw [decide_eq_false (by rw [size_L hL] at h2; omega)]
   exact Ev.eq (Ev.now _) (fun k => (if_pos h1).trans (if_neg h2))
 ·rw [decide_eq_false (by rw [size_L hL] at h1; omega)]
  exact Ev.eq (Ev.now _) (fun k => if_neg h1)
theorem num_told (a : Int) : spec_l02IsNumber.f s a = some (numOK a L) := by
 unfold spec_l02IsNumber.f numOK
 by_cases h1 : (s.size : Int) < 1
 ·rw [if_pos h1, decide_eq_false (by rw [size_L hL] at h1; omega)]; rfl
 by_cases h2 : (s.size : Int) > 20
 ·rw [if_neg h1, if_pos h2, decide_eq_false (by rw [size_L hL] at h2; omega)]; rfl
 have hp : 0 < L.length := by rw [size_L hL] at h1; omega
 have hb : bt s (0 : Int) = ((L.getD 0 0).toNat : Int) := bt_L hL (i := 0) hp
 rw [if_neg h1, if_neg h2, if_pos (by rw [size_L hL]; omega), decide_eq_true (show 1 ≤ L.length ∧ L.length ≤ 20 by rw [size_L hL] at h1 h2; omega), Bool.true_and, hb, sdig_f, Option.bind_some]
 rcases Bool.eq_false_or_eq_true (isDig (L.getD 0 0)) with hd | hd
 ·have hn : spec_l02Number.f s 0 = some (conv 0 (scanNum L)) := by
   unfold spec_l02Number.f
   rw [if_pos ⟨by omega, by rw [size_L hL]; omega, by rw [size_L hL]; omega, by rw [hL]; exact hd⟩, hL]; rfl
  rw [if_pos hd, hd, Bool.true_and, hn, Option.bind_some]
  obtain ⟨R0, hR⟩ : ∃ R0, scanNum L = R0 := ⟨_, rfl⟩
  rw [hR]
  by_cases h0 : R0.2.2.2.1 = 0
  ·have hcv : conv 0 R0 = (R0.1, ⟨R0.2.1.toArray⟩, ((0 : Nat) : Int), ((0 : Nat) : Int) + R0.2.2.1, 0, 0) := by unfold conv; rw [if_pos h0]
   rw [hcv]
   show (if (0 : Int) = 0 then (if ((0 : Nat) : Int) + R0.2.2.1 = (s.size : Int) then (if R0.1 = a then some ((⟨R0.2.1.toArray⟩ : ByteArray).toList == s.toList) else some false) else some false) else some false) = _
   rw [if_pos rfl, toList_mk, ByteArray.toList_eq, hL, size_L hL]
   by_cases h3 : ((0 : Nat) : Int) + R0.2.2.1 = (L.length : Int)
   ·by_cases h4 : R0.1 = a
    ·rw [if_pos h3, if_pos h4]
     by_cases h5 : R0.2.1 = L
     ·rw [beq_iff_eq.2 h5, decide_eq_true ⟨h0, by omega, h4, h5⟩]
     ·rw [beq_eq_false_iff_ne.2 h5, decide_eq_false (fun h9 => h5 h9.2.2.2)]
    ·rw [if_pos h3, if_neg h4, decide_eq_false (fun h9 => h4 h9.2.2.1)]
   ·rw [if_neg h3, decide_eq_false (fun h9 => h3 (by have := h9.2.1; omega))]
  ·have hcv : conv 0 R0 = (0, ⟨#[]⟩, 0, 0, R0.2.2.2.1, ((0 : Nat) : Int) + R0.2.2.2.2) := by unfold conv; rw [if_neg h0]
   rw [hcv]
   show (if R0.2.2.2.1 = 0 then _ else some false) = _
   rw [if_neg h0, decide_eq_false (fun h9 => h0 h9.1)]
 ·rw [if_neg (by rw [hd]; simp), hd]; rfl
theorem txt_told : Ev (fun k => spec_ValueOK.f k 3 0 s) (txtOK L) := by
 have hc := Ev.of (fun k => spec_l01Chars.mono _ k) (chars_told s (by rw [size_L hL]; omega))
 have hr : runeCountL L = (runes L).length := by rw [← hL, runeCountL_eq, runeCount_runes]
 have h4 := runes_bytes _ L (Nat.le_refl _)
 rw [hL] at hc
 unfold txtOK
 rw [hr]
 have base : ∀ k, spec_ValueOK.f k 3 0 s = if (s.size : Int) > 1020 then some false else ((spec_l01Chars.f k s).bind fun bt153 => (if bt153.2 = true then (some (decide ((bt153.1.length : Int) ≤ 255))) else (some false))) := fun k => by
  unfold spec_ValueOK.f
  rw [if_neg (by decide), if_neg (by decide), if_neg (by decide), if_pos rfl, if_pos rfl]
 by_cases h1 : (s.size : Int) > 1020
 ·rw [decide_eq_false (show ¬ (runes L).length ≤ 255 by rw [size_L hL] at h1; omega), Bool.and_false]
  exact Ev.eq (Ev.now _) (fun k => by rw [base, if_pos h1])
 ·refine Ev.eq (g := _) (Ev.bind hc ?_) (fun k => by rw [base, if_neg h1])
  cases hv : validD L
  ·exact Ev.eq (Ev.now _) (fun k => if_neg (by simp))
  ·refine Ev.eq (Ev.now _) (fun k => ?_)
   show (if true = true then some (decide ((((if true = true then runes L else []).length : Nat) : Int) ≤ 255)) else _) = _
   rw [if_pos rfl, if_pos rfl, Bool.true_and]
   congr 1
   exact decide_eq_decide.2 (by omega)
/-- The marked form. -/
theorem mark_loop (q : UInt8) : ∀ (f i : Nat) (m : B), i + f = L.length → m.length ≤ 2 * i + 1 → spec_l02Mark.l0 (f + 1) s (q.toNat : Int) (numL m) i = some ⟨(m ++ dbl q (L.drop i) ++ [q]).toArray⟩
 | 0, i, m, h, hm => by
  rw [spec_l02Mark.l0, if_neg (by rw [size_L hL]; omega), if_pos (by rw [numL_len]; omega), numL_snoc, numL_str, List.drop_eq_nil_of_le (by omega)]
  simp [dbl]
 | f + 1, i, m, h, hm => by
  have hlt : i < L.length := by omega
  rw [spec_l02Mark.l0, if_pos (by rw [size_L hL]; omega), if_pos (by omega), bt_L hL hlt, up1 i (by omega), drop_cons L i hlt]
  obtain ⟨c, hc⟩ : ∃ c, L.getD i 0 = c := ⟨_, rfl⟩
  rw [hc]
  unfold dbl
  by_cases h1 : c = q
  ·subst h1
   have ih := mark_loop c f (i + 1) (m ++ [c] ++ [c]) (by omega) (by simp only [List.length_append, List.length_singleton]; omega)
   rw [if_pos rfl, if_pos (by rw [numL_len]; omega), Option.bind_some, numL_snoc, if_pos (by rw [numL_len]; simp only [List.length_append, List.length_singleton]; omega), numL_snoc, ih, if_pos rfl]
   simp
  ·have ih := mark_loop q f (i + 1) (m ++ [c]) (by omega) (by simp only [List.length_append, List.length_singleton]; omega)
   rw [if_neg (fun h9 => h1 (UInt8.toNat_inj.1 (by omega))), if_pos (by rw [numL_len]; omega), numL_snoc, ih, if_neg h1]
   simp
theorem mark_told (q : UInt8) : Ev (fun k => spec_l02Mark.f k s (q.toNat : Int)) ⟨(q :: (dbl q L ++ [q])).toArray⟩ :=
 Ev.of (fun k => spec_l02Mark.mono _ _ k) ⟨L.length + 1, by
  have := mark_loop hL hs q L.length 0 [q] (by omega) (by simp)
  unfold spec_l02Mark.f
  rw [List.drop_zero] at this
  exact this⟩
theorem text_told (k0 a2 : Int) : Ev (fun k => spec_l02TokenText.f k k0 s a2) ⟨(wr k0 L).toArray⟩ := by
 unfold wr
 by_cases h2 : k0 = 2
 ·rw [if_pos h2]
  exact Ev.eq (g := fun k => (spec_l02Mark.f k s 34).bind fun t183 => some t183) (Ev.bind (mark_told hL hs 34) (Ev.now _)) (fun k => if_pos h2)
 ·rw [if_neg h2]
  by_cases h5 : k0 = 5
  ·rw [if_pos h5]
   exact Ev.eq (g := fun k => (spec_l02Mark.f k s 39).bind fun t184 => some t184) (Ev.bind (mark_told hL hs 39) (Ev.now _)) (fun k => (if_neg h2).trans (if_pos h5))
  ·rw [if_neg h5, mk_L hL]
   exact Ev.eq (Ev.now _) (fun k => (if_neg h2).trans (if_neg h5))
theorem written_told (k0 a2 : Int) : impl_written.f k0 s a2 = some ⟨(wr k0 L).toArray⟩ := by
 have rp : ∀ (x y : ByteArray) (q : UInt8), x.data.toList = [q] → y.data.toList = [q, q] → strings_ReplaceAll.f s x y = some ⟨(dbl q L).toArray⟩ := fun x y q hx hy => by
  unfold strings_ReplaceAll.f
  rw [if_pos ⟨by rw [size_L hL]; omega, by rw [size_len, hx]; rfl, by rw [size_len, hy]; exact Nat.le_refl _⟩, hx, hy, hL, replaceAll_dbl]
 have hd1 := dbl_len 34 L
 have hd2 := dbl_len 39 L
 have e1 := size_mk (dbl 34 L)
 have e2 := size_mk (dbl 39 L)
 unfold impl_written.f wr
 by_cases h2 : k0 = 2
 ·rw [if_pos h2, if_pos h2, rp _ _ 34 rfl rfl, Option.bind_some, if_pos (by rw [size_mk]; omega), if_pos (by rw [ByteArray.size_append]; show 1 + _ + 1 ≤ _; omega)]
  exact congrArg some (bytes_ext (by rw [data_mk]; simp))
 ·rw [if_neg h2, if_neg h2]
  by_cases h5 : k0 = 5
  ·rw [if_pos h5, if_pos h5, rp _ _ 39 rfl rfl, Option.bind_some, if_pos (by rw [size_mk]; omega), if_pos (by rw [ByteArray.size_append]; show 1 + _ + 1 ≤ _; omega)]
   exact congrArg some (bytes_ext (by rw [data_mk]; simp))
  ·rw [if_neg h5, if_neg h5, mk_L hL]
end
end Go.Proofs.YtackifpnpkbddaaGreatDoor.PureFl
