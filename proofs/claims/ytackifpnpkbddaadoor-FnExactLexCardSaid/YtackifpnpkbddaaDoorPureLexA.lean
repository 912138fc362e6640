/- Proved: what the reference's small functions of reading tokens answer, in plain words. -/
import Derived.Test.YtackifpnpkbddaaDoorCharsLx
set_option linter.unusedVariables false
set_option linter.unusedSimpArgs false
namespace Go.Proofs.YtackifpnpkbddaaDoor.PureLex
open Go.RowKit Go.Lib Go.Proofs.YtackifpnpkbddaaDoor.QFnExactLex Go.Proofs.YtackifpnpkbddaaDoorScan Go.Proofs.YtackifpnpkbddaaDoor.CharsLx
open Go.Proofs.YtackifpnpkbddaaDoorW.PrintWords hiding Ev
open Go.Proofs.YtackifpnpkbddaaDoorW.PrintLast hiding up
theorem sdig_f (c : UInt8) : spec_l02Digit.f (c.toNat : Int) = some (isDig c) := dig_f c
theorem slet_f (c : UInt8) : spec_l02Letter.f (c.toNat : Int) = some (isLet c) := let_f c
/-- A row of bytes as whole numbers. -/
def numL (m : B) : List Int := m.map fun c => (c.toNat : Int)
theorem numL_str (m : B) : strOfNums (numL m) = ⟨m.toArray⟩ := by
 unfold strOfNums numL
 rw [List.map_map]
 have e : ((fun n : Int => UInt8.ofNat n.toNat) ∘ fun b : UInt8 => (b.toNat : Int)) = id := by funext b; simp
 rw [e, List.map_id]
theorem numL_len (m : B) : (numL m).length = m.length := by unfold numL; simp
theorem numL_snoc (m : B) (c : UInt8) : numL m ++ [(c.toNat : Int)] = numL (m ++ [c]) := by unfold numL; simp
section
variable {s : ByteArray} {L : B} (hL : s.data.toList = L) (hs : L.length ≤ 1048576)
include hL hs
/-- How many bytes are such. -/
theorem run_loop (w : Int) (p : UInt8 → Bool) (hp : w = 0 ∧ p = isWd ∨ w = 1 ∧ p = isDig) (at_ : Nat) :
  ∀ (f n : Nat), at_ + n + f = L.length → spec_l02Run.l0 (f + 1) s at_ w n = some ((n + cnt p (L.drop (at_ + n)) : Nat) : Int)
 | 0, n, h => by
  unfold spec_l02Run.l0
  rw [up _ _ (by omega), if_neg (by rw [size_L hL]; omega), cnt_end (by omega)]
  rfl
 | f + 1, n, h => by
  have hlt : at_ + n < L.length := by omega
  unfold spec_l02Run.l0
  rw [up _ _ (by omega), if_pos (by rw [size_L hL]; omega), if_pos (by omega), bt_L hL hlt, sdig_f]
  show (if isDig _ = true then _ else _) = _
  have ih := run_loop w p hp at_ f (n + 1) (by omega)
  have hu := up1 n (by omega)
  by_cases h1 : isDig (L.getD (at_ + n) 0) = true
  ·rw [if_pos h1, hu, ih]
   have : p (L.getD (at_ + n) 0) = true := by rcases hp with ⟨_, rfl⟩ | ⟨_, rfl⟩; exact wd_yes2 h1; exact h1
   rw [cnt_yes hlt this, ← Nat.add_assoc at_ n 1]
   congr 2; omega
  ·have h1' : isDig (L.getD (at_ + n) 0) = false := by simpa using h1
   rw [if_neg h1]
   by_cases hw : w = 0
   ·rw [if_pos hw, slet_f]
    show (if isLet _ = true then _ else _) = _
    obtain ⟨_, rfl⟩ : w = 0 ∧ p = isWd := by rcases hp with h | h; exact h; omega
    by_cases h2 : isLet (L.getD (at_ + n) 0) = true
    ·rw [if_pos h2, hu, ih, cnt_yes hlt (wd_yes1 h2), ← Nat.add_assoc at_ n 1]
     congr 2; omega
    ·rw [if_neg h2, cnt_no hlt (wd_no (by simpa using h2) h1')]
     rfl
   ·rw [if_neg hw]
    obtain ⟨_, rfl⟩ : w = 1 ∧ p = isDig := by rcases hp with h | h; omega; exact h
    rw [cnt_no hlt h1']
    rfl
theorem run_told (w : Int) (p : UInt8 → Bool) (hp : w = 0 ∧ p = isWd ∨ w = 1 ∧ p = isDig) (at_ : Nat) (h : at_ ≤ L.length) : Ev (fun k => spec_l02Run.f k s at_ w) ((cnt p (L.drop at_) : Nat) : Int) :=
 Ev.of (fun k => spec_l02Run.mono _ _ _ k) ⟨L.length - at_ + 1, by
  have := run_loop hL hs w p hp at_ (L.length - at_) 0 (by omega)
  unfold spec_l02Run.f
  rw [Nat.zero_add] at this
  exact this⟩

/-- Great letters become small ones. -/
theorem case_loop : ∀ (f i : Nat) (m : B), i + f = L.length → m.length ≤ i → spec_l01Case.l0 (f + 1) s 65 97 (numL m) i = some ⟨(m ++ toLowerA (L.drop i)).toArray⟩
 | 0, i, m, h, hm => by
  unfold spec_l01Case.l0
  rw [if_neg (by rw [size_L hL]; omega), numL_str, List.drop_eq_nil_of_le (by omega)]
  simp [toLowerA]
 | f + 1, i, m, h, hm => by
  have hlt : i < L.length := by omega
  unfold spec_l01Case.l0
  have hf : (numL m).length < 140737488355328 := by rw [numL_len]; omega
  have hu := up1 i (by omega)
  have ih := fun c => case_loop f (i + 1) (m ++ [c]) (by omega) (by rw [List.length_append, List.length_singleton]; omega)
  have hd : toLowerA (L.drop i) = lowerB (L.getD i 0) :: toLowerA (L.drop (i + 1)) := by rw [drop_cons L i hlt]; rfl
  rw [if_pos (by rw [size_L hL]; omega), if_pos (by omega), bt_L hL hlt, hu, if_pos hf, if_pos hf, hd]
  obtain ⟨c, hc⟩ : ∃ c, L.getD i 0 = c := ⟨_, rfl⟩
  rw [hc]
  have fin : spec_l01Case.l0 (f + 1) s 65 97 (numL m ++ [(((lowerB c).toNat : Nat) : Int)]) ((i + 1 : Nat) : Int) = some ⟨(m ++ lowerB c :: toLowerA (L.drop (i + 1))).toArray⟩ := by
   rw [numL_snoc, ih (lowerB c)]; simp
  have stay : ¬ (65 ≤ c.toNat ∧ c.toNat ≤ 90) → (c.toNat : Int) = (((lowerB c).toNat : Nat) : Int) := fun h9 => by
   unfold lowerB isUpperB
   rw [if_neg]
   simp only [Bool.and_eq_true, decide_eq_true_eq, not_and]
   intro h1 h2
   exact h9 ⟨by simpa [UInt8.le_iff_toNat_le] using h1, by simpa [UInt8.le_iff_toNat_le] using h2⟩
  by_cases h1 : (c.toNat : Int) ≥ 65
  ·rw [if_pos h1]
   by_cases h2 : (c.toNat : Int) ≤ (65 + 25) % 256
   ·rw [if_pos h2]
    have e : ((c.toNat : Int) - 65 + 97) % 256 = (((lowerB c).toNat : Nat) : Int) := by
     unfold lowerB isUpperB
     rw [if_pos]
     ·have : (c + 32).toNat = c.toNat + 32 := by rw [UInt8.toNat_add]; simp; omega
      rw [this]; omega
     ·simp only [Bool.and_eq_true, decide_eq_true_eq]
      exact ⟨by rw [UInt8.le_iff_toNat_le]; simp; omega, by rw [UInt8.le_iff_toNat_le]; simp; omega⟩
    rw [e]; exact fin
   ·rw [if_neg h2, stay (by omega)]; exact fin
  ·rw [if_neg h1, stay (by omega)]; exact fin
theorem case_told : Ev (fun k => spec_l01Case.f k s 65 97) ⟨(toLowerA L).toArray⟩ :=
 Ev.of (fun k => spec_l01Case.mono _ _ _ k) ⟨L.length + 1, by
  have := case_loop hL hs L.length 0 [] (by omega) (by simp)
  unfold spec_l01Case.f
  rw [List.drop_zero, List.nil_append] at this
  exact this⟩

/-- Is every byte a printable one. -/
theorem pr_loop : ∀ (f i : Nat), i + f = L.length → spec_l02Printable.l0 (f + 1) s i = some ((L.drop i).all isPr)
 | 0, i, h => by
  unfold spec_l02Printable.l0
  rw [if_neg (by rw [size_L hL]; omega), List.drop_eq_nil_of_le (by omega)]
  rfl
 | f + 1, i, h => by
  have hlt : i < L.length := by omega
  unfold spec_l02Printable.l0
  rw [if_pos (by rw [size_L hL]; omega), if_pos (by omega), bt_L hL hlt, up1 i (by omega), pr_loop f (i + 1) (by omega), drop_cons L i hlt]
  show _ = some (isPr (L.getD i 0) && (L.drop (i + 1)).all isPr)
  obtain ⟨c, hc⟩ : ∃ c, L.getD i 0 = c := ⟨_, rfl⟩
  rw [hc]
  by_cases h1 : (c.toNat : Int) < 32
  ·rw [if_pos h1, show isPr c = false from decide_eq_false (by omega)]; rfl
  ·rw [if_neg h1]
   by_cases h2 : (c.toNat : Int) > 126
   ·rw [if_pos h2, show isPr c = false from decide_eq_false (by omega)]; rfl
   ·rw [if_neg h2, show isPr c = true from decide_eq_true (by omega)]; rfl
theorem pr_told : Ev (fun k => spec_l02Printable.f k s) (L.all isPr) :=
 Ev.of (fun k => spec_l02Printable.mono _ k) ⟨L.length + 1, by
  have := pr_loop hL hs L.length 0 (by omega)
  rw [List.drop_zero] at this
  exact this⟩

/-- What lies between two marks. -/
def btwF (at_ : Nat) (m : B) : Option (B × Nat) → ByteArray × Int
 | none => (⟨#[]⟩, -1)
 | some x => (⟨(m ++ x.1).toArray⟩, ((at_ + x.2 : Nat) : Int))
omit hL hs in
theorem btwF_map (i d : Nat) (m t : B) (o : Option (B × Nat)) : btwF i m (o.map fun x => (t ++ x.1, x.2 + d)) = btwF (i + d) (m ++ t) o := by
 cases o with
 | none => rfl
 | some x => simp [btwF]; omega
theorem btw_loop (q : UInt8) : ∀ (f i : Nat) (m : B), L.length - i ≤ f → m.length ≤ i → spec_l02Between.l0 (f + 1) s (q.toNat : Int) (numL m) i = some (btwF i m (betw q (L.drop i)))
 | f, i, m, h, hm => by
  unfold spec_l02Between.l0
  by_cases hlt : i < L.length
  ·obtain ⟨g, rfl⟩ : ∃ g, f = g + 1 := ⟨f - 1, by omega⟩
   have hf : (numL m).length < 140737488355328 := by rw [numL_len]; omega
   have hu := up1 i (by omega)
   have hu2 := up1 (i + 1) (by omega)
   rw [if_pos (by rw [size_L hL]; omega), if_pos (by omega), bt_L hL hlt, hu]
   by_cases h1 : L.getD i 0 = q
   ·rw [if_pos (by rw [h1])]
    by_cases h2 : i + 1 < L.length
    ·rw [if_neg (by rw [size_L hL]; omega), if_pos (by omega), if_pos (by rw [size_L hL]; omega), bt_L hL h2]
     by_cases h3 : L.getD (i + 1) 0 = q
     ·rw [if_pos (by rw [h3]), if_pos hf, hu2, numL_snoc, h3]
      have ih := btw_loop q g (i + 2) (m ++ [q]) (by omega) (by rw [List.length_append, List.length_singleton]; omega)
      rw [betw_two h2 h1 h3]
      exact ih.trans (congrArg some (btwF_map i 2 m [q] _).symm)
     ·rw [if_neg (by intro h9; exact h3 (UInt8.toNat_inj.1 (by omega))), numL_str, betw_stop hlt h1 (fun h9 => h3 h9.2)]
      simp [btwF]
    ·rw [if_pos (by rw [size_L hL]; omega), numL_str, betw_stop hlt h1 (fun h9 => h2 h9.1)]
     simp [btwF]
   ·rw [if_neg (by intro h9; exact h1 (UInt8.toNat_inj.1 (by omega))), if_pos hf, numL_snoc]
    have ih := btw_loop q g (i + 1) (m ++ [L.getD i 0]) (by omega) (by rw [List.length_append, List.length_singleton]; omega)
    rw [betw_other hlt h1]
    exact ih.trans (congrArg some (btwF_map i 1 m [L.getD i 0] _).symm)
  ·rw [if_neg (by rw [size_L hL]; omega), betw_end q (by omega)]
   rfl
theorem btw_told (q : UInt8) (at_ : Nat) (h : at_ < L.length) (hq : L.getD at_ 0 = q) : Ev (fun k => spec_l02Between.f k s at_) (btwF (at_ + 1) [] (betw q (L.drop (at_ + 1)))) :=
 Ev.of (fun k => spec_l02Between.mono _ _ k) ⟨L.length + 1, by
  have := btw_loop hL hs q L.length (at_ + 1) [] (by omega) (by simp)
  unfold spec_l02Between.f
  rw [if_pos (by omega), if_pos (by rw [size_L hL]; omega), bt_L hL h, hq, up1 _ (by omega)]
  exact this⟩

/-- The first sign that stands here. -/
def sgO : Option B → ByteArray
 | none => ⟨#[]⟩
 | some g => ⟨g.toArray⟩
omit hL hs in
theorem pre_take (g l : B) : Lib.hasPrefix l g = true ↔ g.length ≤ l.length ∧ l.take g.length = g := by
 unfold Lib.hasPrefix
 rw [List.isPrefixOf_iff_prefix]
 constructor
 ·rintro ⟨r, rfl⟩; simp
 ·rintro ⟨h1, h2⟩; exact ⟨l.drop g.length, by rw [← h2]; simp [Nat.min_eq_left h1]⟩
theorem sgn_loop (at_ : Nat) (hat : at_ ≤ L.length) (gs : List ByteArray) (hg : ∀ g ∈ gs, g.size ≤ 4) (hn : gs.length ≤ 100) : ∀ (f j : Nat), j + f = gs.length →
  spec_l02SignAt.l0 (f + 1) s at_ gs (gs.length : Int) j = some (sgO (sgnF ((gs.drop j).map fun g => g.data.toList) (L.drop at_)))
 | 0, j, h => by
  unfold spec_l02SignAt.l0
  rw [if_neg (by omega), List.drop_eq_nil_of_le (by omega)]
  rfl
 | f + 1, j, h => by
  have hlt : j < gs.length := by omega
  unfold spec_l02SignAt.l0
  have e : rdOf ByteArray.empty gs (j : Int) = gs[j] := by simp [rdOf, List.getD, hlt]
  obtain ⟨g, hgj⟩ : ∃ g, gs[j] = g := ⟨_, rfl⟩
  have hg4 : g.size ≤ 4 := hg g (by rw [← hgj]; exact List.getElem_mem hlt)
  rw [if_pos (by omega), if_pos (by omega), if_pos (by omega), e, hgj, up at_ g.size (by omega), up1 j (by omega), sgn_loop at_ hat gs hg hn f (j + 1) (by omega), List.drop_eq_getElem_cons hlt, List.map_cons, hgj]
  show _ = some (sgO (if Lib.hasPrefix (L.drop at_) g.data.toList = true then some g.data.toList else _))
  have hgs : g.size = g.data.toList.length := rfl
  by_cases h1 : at_ + g.size ≤ L.length
  ·rw [if_pos (by rw [size_L hL]; omega), if_pos (by omega), if_pos (by omega)]
   have e2 : (s.extract (at_ : Int).toNat (((at_ + g.size : Nat) : Int)).toNat).toList = (L.drop at_).take g.data.toList.length := by
    rw [ByteArray.toList_eq, Int.toNat_natCast, Int.toNat_natCast, ext_take, hL, Nat.add_sub_cancel_left]; rfl
   rw [e2, ByteArray.toList_eq]
   by_cases h2 : (L.drop at_).take g.data.toList.length = g.data.toList
   ·rw [if_pos h2, if_pos ((pre_take _ _).2 ⟨by rw [List.length_drop]; omega, h2⟩)]
    show some g = some (⟨g.data.toList.toArray⟩ : ByteArray)
    rw [Array.toArray_toList]
   ·rw [if_neg h2, if_neg (fun h9 => h2 ((pre_take _ _).1 h9).2)]
  ·rw [if_neg (by rw [size_L hL]; omega), if_neg (fun h9 => h1 (by have := ((pre_take _ _).1 h9).1; rw [List.length_drop] at this; omega))]
theorem sgn_told (at_ : Nat) (hat : at_ ≤ L.length) : Ev (fun k => spec_l02SignAt.f k s at_) (sgO (sgnF signB (L.drop at_))) :=
 Ev.of (fun k => spec_l02SignAt.mono _ _ k) ⟨19, by
  have h9 : ∀ g ∈ signL, g.size ≤ 4 := by intro g hg; unfold signL at hg; simp only [List.mem_cons, List.not_mem_nil, or_false] at hg; rcases hg with h | h | h | h | h | h | h | h | h | h | h | h | h | h | h | h | h | h <;> rw [h] <;> exact Nat.le_of_ble_eq_true rfl
  have h8 : signL.length = 18 := rfl
  have := sgn_loop hL hs at_ hat signL h9 (by rw [h8]; decide) 18 0 h8.symm
  unfold spec_l02SignAt.f
  rw [Option.bind_some]
  rw [List.drop_zero, show signL.map (fun g => g.data.toList) = signB from rfl] at this
  unfold signL at this
  exact this⟩
end
end Go.Proofs.YtackifpnpkbddaaDoor.PureLex
