/- Proved: for every row of bytes that fits into memory the program's RowValues and the reference's RowValues answer alike, and the law's checks of what is kept and written hold. No other conditions. -/
import Derived.Test.YtaicfmmgmblmiaaDoorQFnExactRowValuesLaw
import Derived.Test.YtaicfmmgmblmiaaDoorCharsRV
import Derived.Lib.Zigzag
import Derived.Laws.BitsAllLaws
set_option linter.unusedVariables false
namespace Go.Proofs.YtaicfmmgmblmiaaDoor.PureFnExactRowValues
open Go.RowKit Go.Lib Go.Proofs.YtaicfmmgmblmiaaDoor.QFnExactRowValues Go.Proofs.YtaicfmmgmblmiaaDoorW.PrintWords Go.Proofs.YtaicfmmgmblmiaaDoorW.PrintLast Go.Proofs.YtaicfmmgmblmiaaDoorExt

theorem mono_le {α : Type} {f : Nat → Option α} (h : ∀ k, LeO (f k) (f (k + 1))) {k m : Nat} (hk : k ≤ m) {r : α} (e : f k = some r) : f m = some r := by
  obtain ⟨d, rfl⟩ : ∃ d, m = k + d := ⟨m - k, by omega⟩
  clear hk
  induction d with
  | zero => exact e
  | succ d ih => exact h _ _ ih
/-- With enough rounds, it is told for good. -/
def Ev {α : Type} (f : Nat → Option α) (r : α) : Prop := ∃ k, ∀ m, k ≤ m → f m = some r
theorem Ev.of {α : Type} {f : Nat → Option α} {r : α} (hm : ∀ k, LeO (f k) (f (k + 1))) (h : ∃ k, f k = some r) : Ev f r := by
  obtain ⟨k, hk⟩ := h
  exact ⟨k, fun m hle => mono_le hm hle hk⟩
theorem Ev.succ {α : Type} {f g : Nat → Option α} {r : α} (h : Ev g r) (e : ∀ k, f (k + 1) = g k) : Ev f r := by
  obtain ⟨k, hk⟩ := h
  refine ⟨k + 1, fun m hm => ?_⟩
  obtain ⟨m, rfl⟩ : ∃ z, m = z + 1 := ⟨m - 1, by omega⟩
  rw [e]; exact hk m (by omega)
theorem Ev.bind {α β : Type} {f : Nat → Option α} {r : α} (h : Ev f r) {g : Nat → α → Option β} {s : β} (hg : Ev (fun k => g k r) s) : Ev (fun k => (f k).bind (g k)) s := by
  obtain ⟨k, hk⟩ := h
  obtain ⟨l, hl⟩ := hg
  refine ⟨k + l, fun m hm => ?_⟩
  show (f m).bind (g m) = some s
  rw [hk m (by omega)]
  exact hl m (by omega)
theorem Ev.now {α : Type} (r : α) : Ev (fun _ => some r) r := ⟨0, fun _ _ => rfl⟩
theorem Ev.eq {α : Type} {f g : Nat → Option α} {r : α} (h : Ev g r) (e : ∀ k, f k = g k) : Ev f r := by
  obtain ⟨k, hk⟩ := h
  exact ⟨k, fun m hm => by rw [e]; exact hk m hm⟩
theorem rd_getD (l : List Int) (i : Nat) : rd l (i : Int) = l.getD i 0 := by unfold rd; rw [Int.toNat_natCast]
theorem rd25 (l : List S25) (i : Nat) : rd_T25 l (i : Int) = l.getD i z25 := by unfold rd_T25; rw [Int.toNat_natCast]
theorem up1 (i : Nat) (h : i ≤ 281474976710656) : wrap64 ((i : Int) + 1) = ((i + 1 : Nat) : Int) := by unfold wrap64; omega

theorem dup {α : Type} {e : Option α} (h : e.isSome = true) : ∃ v, e = some v ∧ e = some v := by
  cases e with
  | none => cases h
  | some v => exact ⟨v, rfl, rfl⟩

theorem value_both (a b : Int) (s : ByteArray) (hs : s.size ≤ 1048576) : ∃ k v, spec_ValueOK.f k a b s = some v ∧ impl_ValueOK.f a b s = some v := by
  obtain ⟨k, hk⟩ := chars_told s hs
  refine ⟨k, ?_⟩
  unfold spec_ValueOK.f impl_ValueOK.f
  by_cases h0 : a = 0
  · rw [if_pos h0, if_pos h0]
    by_cases hb : b = 0
    · rw [if_pos hb]; exact ⟨_, rfl, rfl⟩
    · rw [if_neg hb]; exact ⟨_, rfl, rfl⟩
  rw [if_neg h0, if_neg h0]
  by_cases h1 : a = 1
  · rw [if_pos h1, if_pos h1]; exact ⟨_, rfl, rfl⟩
  rw [if_neg h1, if_neg h1]
  by_cases h2 : a = 2
  · rw [if_pos h2, if_pos h2]
    by_cases hb : s.toList = []
    · by_cases hc : b ≥ -999999999999999999
      · simp only [if_pos hb, if_pos hc]; exact ⟨_, rfl, rfl⟩
      · simp only [if_pos hb, if_neg hc]; exact ⟨_, rfl, rfl⟩
    · simp only [if_neg hb]; exact ⟨_, rfl, rfl⟩
  rw [if_neg h2, if_neg h2]
  by_cases h3 : a = 3
  · rw [if_pos h3, if_pos h3]
    by_cases hb : b = 0
    · have e1 : utf8_ValidString.f s = some (validD s.data.toList) := by unfold utf8_ValidString.f; rw [if_pos (by omega)]
      have e2 : utf8_RuneCountInString.f s = some (runeCount s : Int) := by unfold utf8_RuneCountInString.f; rw [if_pos (by omega)]
      rw [if_pos hb, if_pos hb, hk, e1, e2]
      simp only [Option.bind_some]
      have hr := runeCount_runes s
      by_cases hz : (s.size : Int) > 1020
      · rw [if_pos hz]
        have h4 := runes_bytes _ s.data.toList (Nat.le_refl _)
        have hl : s.data.toList.length = s.size := by simp
        cases hv : validD s.data.toList
        · exact ⟨_, rfl, rfl⟩
        · refine ⟨false, rfl, ?_⟩
          rw [if_pos rfl, decide_eq_false (by omega)]
      · rw [if_neg hz]
        cases hv : validD s.data.toList
        · exact ⟨_, rfl, rfl⟩
        · refine ⟨_, rfl, ?_⟩
          simp only [if_true, hr]
    · rw [if_neg hb, if_neg hb]; exact ⟨_, rfl, rfl⟩
  rw [if_neg h3, if_neg h3]
  refine dup ?_
  by_cases h4 : a = 4
  · by_cases hb : s.toList = [] <;> by_cases hc : b = 0 <;> simp [h4, hb, hc]
  · by_cases h5 : a = 5 <;> by_cases hb : s.toList = [] <;> by_cases hc : b ≥ -719162 <;> simp [h4, h5, hb, hc]


/-! ### a row is itself -/
theorem eqb_loop (l : List Int) (hl : l.length ≤ 281474976710655) : ∀ (n i : Nat), i + n = l.length → laws_eqByteS.l0 (n + 1) l l (i : Int) = some true := by
  intro n
  induction n with
  | zero =>
    intro i hi
    simp only [laws_eqByteS.l0]
    rw [if_neg (by omega)]
  | succ n ih =>
    intro i hi
    obtain ⟨q, hq⟩ : ∃ q, q = n + 1 := ⟨_, rfl⟩
    rw [← hq] at ih ⊢
    simp only [laws_eqByteS.l0]
    rw [if_pos (by omega), if_pos (by omega), if_pos (by omega), if_pos trivial, up1 i (by omega)]
    exact ih (i + 1) (by omega)
theorem eqb_told (l : List Int) (hl : l.length ≤ 281474976710655) : Ev (fun k => laws_eqByteS.f k l l) true := by
  refine Ev.of (laws_eqByteS.mono l l) ⟨l.length + 1, ?_⟩
  unfold laws_eqByteS.f
  rw [if_pos rfl]
  exact eqb_loop l hl l.length 0 (by omega)
theorem eqv_loop (l : List S25) (hl : l.length ≤ 281474976710655) : ∀ (n i : Nat), i + n = l.length → laws_eqValueS.l0 (n + 1) l l (i : Int) = some true := by
  intro n
  induction n with
  | zero =>
    intro i hi
    simp only [laws_eqValueS.l0]
    rw [if_neg (by omega)]
  | succ n ih =>
    intro i hi
    obtain ⟨q, hq⟩ : ∃ q, q = n + 1 := ⟨_, rfl⟩
    rw [← hq] at ih ⊢
    simp only [laws_eqValueS.l0, laws_eqValue.f]
    rw [if_pos (by omega), if_pos (by omega), if_pos (by omega), if_pos trivial, if_pos trivial, if_pos trivial, Option.bind_some, if_pos rfl, up1 i (by omega)]
    exact ih (i + 1) (by omega)
theorem eqv_told (l : List S25) (hl : l.length ≤ 281474976710655) : Ev (fun k => laws_eqValueS.f k l l) true := by
  refine Ev.of (laws_eqValueS.mono l l) ⟨l.length + 1, ?_⟩
  unfold laws_eqValueS.f
  rw [if_pos rfl]
  exact eqv_loop l hl l.length 0 (by omega)

theorem text_loop : ∀ (n : Nat) (a : Nat) (s : ByteArray), n ≤ 18 → a < 10 ^ n → s.size + n ≤ 100 → ∃ r, laws_markText.l0 (n + 1) (a : Int) s = some r := by
  intro n
  induction n with
  | zero =>
    intro a s _ ha hs
    obtain rfl : a = 0 := by simpa using ha
    simp only [laws_markText.l0]
    rw [if_neg (by decide), if_pos (by omega)]
    exact ⟨_, rfl⟩
  | succ n ih =>
    intro a s hn ha hs
    obtain ⟨q, hqq⟩ : ∃ q, q = n + 1 := ⟨_, rfl⟩
    rw [← hqq] at ih
    rw [show n + 1 + 1 = q + 1 by omega]
    simp only [laws_markText.l0]
    by_cases c : (a : Int) > 0
    · rw [if_pos c, Option.bind_some]
      have hsz : (strOfNums [wrap64 (48 + Int.tmod (a : Int) 10) % 256]).size = 1 := by simp [strOfNums]; rfl
      rw [if_pos (by rw [hsz]; omega)]
      have e : wrap64 (Int.tdiv (a : Int) 10) = ((a / 10 : Nat) : Int) := by
        have h1 : Int.tdiv (a : Int) 10 = ((a / 10 : Nat) : Int) := rfl
        have h2 : a < 1000000000000000000 := Nat.lt_of_lt_of_le ha (Nat.le_trans (Nat.pow_le_pow_right (by decide) hn) (by decide))
        rw [h1]
        unfold wrap64
        omega
      rw [e]
      exact ih (a / 10) _ (by omega) (by rw [Nat.div_lt_iff_lt_mul (by decide)]; rw [Nat.pow_succ] at ha; exact ha) (by rw [ByteArray.size_append, hsz]; omega)
    · rw [if_neg c, if_pos (by omega)]
      exact ⟨_, rfl⟩

theorem text_told (a : Nat) (h : a < 1000000000) : ∃ r, Ev (fun k => laws_markText.f k (a : Int)) r := by
  by_cases c : (a : Int) ≤ 0
  · refine ⟨⟨#[109, 48]⟩, 0, fun m _ => ?_⟩
    show laws_markText.f m (a : Int) = _
    unfold laws_markText.f
    rw [if_pos c]
  · obtain ⟨r, hr⟩ := text_loop 9 a ⟨#[]⟩ (by decide) (by omega) (by decide)
    refine ⟨r, Ev.of (laws_markText.mono (a : Int)) ⟨10, ?_⟩⟩
    unfold laws_markText.f
    rw [if_neg c]
    exact hr
/-! ### the numbers -/
theorem u64w (x : Int) : IntKind.u64.wrap x = x % 18446744073709551616 := by
  simp [IntKind.wrap, IntKind.signed, IntKind.bits]
def var : Nat → Nat → List Int
  | 0, _ => []
  | f + 1, n => if 128 ≤ n then ((n % 128 + 128 : Nat) : Int) :: var f (n / 128) else [(n : Int)]
theorem var_len : ∀ (f n : Nat), (var f n).length ≤ f
  | 0, _ => by simp [var]
  | f + 1, n => by
    have := var_len f (n / 128)
    unfold var
    split <;> simp <;> omega
theorem or128 : ∀ n : Nat, n < 256 → Go.bits .or .u8 (n : Int) 128 = ((n % 128 + 128 : Nat) : Int) := by
  intro n hn
  show Go.bits .or .u8 (n : Int) ((128 : Nat) : Int) = _
  rw [u8_or_nat n 128 hn (by decide)]
  have : ∀ m : Fin 256, m.val ||| 128 = m.val % 128 + 128 := by decide +kernel
  rw [this ⟨n, hn⟩]
theorem spec_var : ∀ (f n : Nat) (acc : List Int), n < 128 ^ (f + 1) → n < 18446744073709551616 → acc.length + f < 100000000000 → spec_l11Varint.l0 (f + 1) (n : Int) acc = some (acc ++ var (f + 1) n) := by
  intro f
  induction f with
  | zero =>
    intro n acc h1 h2 h3
    simp only [spec_l11Varint.l0, var]
    rw [if_neg (by omega), if_pos (by omega), if_neg (by omega), show ((n : Int)) % 256 = (n : Int) by omega]
  | succ f ih =>
    intro n acc h1 h2 h3
    obtain ⟨q, hq⟩ : ∃ q, q = f + 1 := ⟨_, rfl⟩
    rw [← hq] at ih ⊢
    unfold var
    simp only [spec_l11Varint.l0]
    by_cases c : 128 ≤ n
    · have e1 : Int.tdiv (n : Int) 128 = ((n / 128 : Nat) : Int) := rfl
      have e2 : Int.tmod (n : Int) 128 = ((n % 128 : Nat) : Int) := rfl
      rw [if_pos (by omega), if_pos (by omega), if_pos c, e1, e2, u64w, u64w, show ((n / 128 : Nat) : Int) % 18446744073709551616 = ((n / 128 : Nat) : Int) by omega,
        show (((n % 128 : Nat) : Int) + 128) % 18446744073709551616 % 256 = ((n % 128 + 128 : Nat) : Int) by omega,
        ih (n / 128) _ (by rw [Nat.div_lt_iff_lt_mul (by decide)]; rw [Nat.pow_succ] at h1; rw [hq]; exact h1) (by omega) (by simp; omega), List.append_assoc]
      rfl
    · rw [if_neg (by omega), if_pos (by omega), if_neg c, show ((n : Int)) % 256 = (n : Int) by omega]
theorem impl_var : ∀ (f n : Nat) (acc : List Int), n < 128 ^ (f + 1) → acc.length + f < 100000000000 → impl_zVarint.l0 (f + 1) acc (n : Int) = some (acc ++ var (f + 1) n) := by
  intro f
  induction f with
  | zero =>
    intro n acc h1 h3
    simp only [impl_zVarint.l0, var]
    rw [if_neg (by omega), if_pos (by omega), if_neg (by omega), show ((n : Int)) % 256 = (n : Int) by omega]
  | succ f ih =>
    intro n acc h1 h3
    obtain ⟨q, hq⟩ : ∃ q, q = f + 1 := ⟨_, rfl⟩
    rw [← hq] at ih ⊢
    unfold var
    simp only [impl_zVarint.l0]
    by_cases c : 128 ≤ n
    · rw [if_pos (by omega), if_pos (by omega), if_pos c, show ((n : Int)) % 256 = ((n % 256 : Nat) : Int) by omega, or128 _ (Nat.mod_lt _ (by decide)), show n % 256 % 128 = n % 128 by omega,
        show (n : Int) / 128 = ((n / 128 : Nat) : Int) by omega, ih (n / 128) _ (by rw [Nat.div_lt_iff_lt_mul (by decide)]; rw [Nat.pow_succ] at h1; rw [hq]; exact h1) (by simp; omega), List.append_assoc]
      rfl
    · rw [if_neg (by omega), if_pos (by omega), if_neg c, show ((n : Int)) % 256 = (n : Int) by omega]
theorem spec_varint (n : Nat) (h : n < 18446744073709551616) : Ev (fun k => spec_l11Varint.f k (n : Int)) (var 10 n) :=
  Ev.of (spec_l11Varint.mono (n : Int)) ⟨10, spec_var 9 n [] (Nat.lt_of_lt_of_le h (by decide)) h (by simp)⟩
theorem impl_varint (n : Nat) (acc : List Int) (h : n < 18446744073709551616) (ha : acc.length ≤ 10000000000) : Ev (fun k => impl_zVarint.f k acc (n : Int)) (acc ++ var 10 n) :=
  Ev.of (impl_zVarint.mono acc (n : Int)) ⟨10, impl_var 9 n acc (Nat.lt_of_lt_of_le h (by decide)) (by omega)⟩

/-- A whole number, folded. -/
def fold (a : Int) : Nat := if 0 ≤ a then (2 * a).toNat else (-2 * a - 1).toNat
theorem fold_lt (a : Int) (h0 : -9223372036854775808 ≤ a) (h1 : a ≤ 9223372036854775807) : fold a < 18446744073709551616 := by
  unfold fold; split <;> omega
theorem spec_fold (a : Int) (h0 : -9223372036854775808 ≤ a) (h1 : a ≤ 9223372036854775807) : spec_l11Fold.f a = some ((fold a : Nat) : Int) := by
  unfold spec_l11Fold.f fold
  simp only [u64w]
  by_cases c : a < 0
  · rw [if_pos c, if_neg (by omega), w64 (a + 1) (by omega) (by omega), w64 (-(a + 1)) (by omega) (by omega)]
    congr 1
    omega
  · rw [if_neg c, if_pos (by omega)]
    congr 1
    omega
theorem impl_fold (a : Int) (h0 : -9223372036854775808 ≤ a) (h1 : a ≤ 9223372036854775807) : Go.bits .xor .u64 (IntKind.u64.wrap ((IntKind.u64.wrap (a)) * 2)) (IntKind.u64.wrap (a / 9223372036854775808)) = ((fold a : Nat) : Int) := by
  simp only [u64w]
  unfold fold
  by_cases c : 0 ≤ a
  · rw [if_pos c, show a / 9223372036854775808 % 18446744073709551616 = ((0 : Nat) : Int) by omega, show a % 18446744073709551616 * 2 % 18446744073709551616 = ((2 * a).toNat : Int) by omega, u64_xor_nat _ _ (by omega) (by decide), Nat.xor_zero]
  · have hx := Lib.xor_ones64 (18446744073709551616 + 2 * a).toNat (by omega)
    rw [if_neg c, show a / 9223372036854775808 % 18446744073709551616 = ((2 ^ 64 - 1 : Nat) : Int) by omega, show a % 18446744073709551616 * 2 % 18446744073709551616 = ((18446744073709551616 + 2 * a).toNat : Int) by omega,
      u64_xor_nat _ _ (by omega) (by decide), Nat.xor_comm, hx]
    congr 1
    omega

/-! ### are all values sound -/
/-- A value that may stand in a row. -/
def Good (x : S25) : Prop := (x.f0 = 0 ∧ x.f1 = 0 ∧ x.f2.toList = []) ∨ (x.f0 = 1 ∧ x.f2.toList = []) ∨ (x.f0 = 2 ∧ x.f2.toList = []) ∨ (x.f0 = 3 ∧ x.f1 = 0) ∨ (x.f0 = 4 ∧ x.f2.toList = [] ∧ (x.f1 = 0 ∨ x.f1 = 1)) ∨ (x.f0 = 5 ∧ x.f2.toList = [])
theorem good_of (a b : Int) (s : ByteArray) (h : impl_ValueOK.f a b s = some true) : Good ⟨a, b, s⟩ := by
  unfold impl_ValueOK.f at h
  unfold Good
  by_cases h0 : a = 0
  · rw [if_pos h0] at h
    by_cases hb : b = 0
    · rw [if_pos hb] at h
      exact .inl ⟨h0, hb, by simpa using h⟩
    · rw [if_neg hb] at h; simp at h
  rw [if_neg h0] at h
  by_cases h1 : a = 1
  · rw [if_pos h1] at h
    exact .inr (.inl ⟨h1, by simpa using h⟩)
  rw [if_neg h1] at h
  by_cases h2 : a = 2
  · rw [if_pos h2] at h
    by_cases hb : s.toList = []
    · exact .inr (.inr (.inl ⟨h2, hb⟩))
    · rw [if_neg hb] at h; simp at h
  rw [if_neg h2] at h
  by_cases h3 : a = 3
  · rw [if_pos h3] at h
    by_cases hb : b = 0
    · exact .inr (.inr (.inr (.inl ⟨h3, hb⟩)))
    · rw [if_neg hb] at h; simp at h
  rw [if_neg h3] at h
  by_cases h4 : a = 4
  · rw [if_pos h4] at h
    by_cases hb : s.toList = []
    · rw [if_pos hb] at h
      by_cases hc : b = 0
      · exact .inr (.inr (.inr (.inr (.inl ⟨h4, hb, .inl hc⟩))))
      · rw [if_neg hc] at h
        exact .inr (.inr (.inr (.inr (.inl ⟨h4, hb, .inr (by simpa using h)⟩))))
    · rw [if_neg hb] at h; simp at h
  rw [if_neg h4] at h
  by_cases h5 : a = 5
  · rw [if_pos h5] at h
    by_cases hb : s.toList = []
    · exact .inr (.inr (.inr (.inr (.inr ⟨h5, hb⟩))))
    · rw [if_neg hb] at h; simp at h
  rw [if_neg h5] at h
  simp at h

/-- One value's bytes. -/
def enc1 (x : S25) : List Int := x.f0 % 256 :: (if x.f0 = 1 ∨ x.f0 = 2 ∨ x.f0 = 5 then var 10 (fold x.f1) else if x.f0 = 3 then var 10 x.f2.size ++ bytesOf x.f2 else if x.f0 = 4 then [x.f1 % 256] else [])
def flat (l : List S25) : List Int := l.flatMap enc1
theorem flat_drop (l : List S25) (i : Nat) (hi : i < l.length) : flat (l.drop i) = enc1 (l.getD i z25) ++ flat (l.drop (i + 1)) := by
  unfold flat
  rw [List.drop_eq_getElem_cons hi, List.flatMap_cons]
  simp [List.getD, hi]
/-- What RowBytes hands back, the values sound. -/
def told (b : List Int) : List Int × Int := if (b.length : Int) > 4000 then ([], 5) else (b, 0)

section
variable (l : List S25) (hl : l.length ≤ 1048576) (hs : ∀ i, i < l.length → (l.getD i z25).f2.size ≤ 1048576) (hn : ∀ i, i < l.length → -9223372036854775808 ≤ (l.getD i z25).f1 ∧ (l.getD i z25).f1 ≤ 9223372036854775807)
include hl hs
theorem valid_loop : ∀ (n i : Nat), i + n = l.length → ∃ v, Ev (fun k => spec_l11Valid.l0 k l (l.length : Int) (i : Int)) v ∧ Ev (fun k => impl_zBad.l0 k l (l.length : Int) (i : Int)) (!v) ∧ (v = true → ∀ j, i ≤ j → j < l.length → Good (l.getD j z25)) := by
  intro n
  induction n with
  | zero =>
    intro i hi
    refine ⟨true, ⟨1, fun m hm => ?_⟩, ⟨1, fun m hm => ?_⟩, fun _ j h1 h2 => by omega⟩
    · obtain ⟨m, rfl⟩ : ∃ z, m = z + 1 := ⟨m - 1, by omega⟩
      simp only [spec_l11Valid.l0]
      rw [if_neg (by omega)]
    · obtain ⟨m, rfl⟩ : ∃ z, m = z + 1 := ⟨m - 1, by omega⟩
      simp only [impl_zBad.l0]
      rw [if_neg (by omega)]; rfl
  | succ n ih =>
    intro i hi
    obtain ⟨k, v, h1, h2⟩ := value_both (l.getD i z25).f0 (l.getD i z25).f1 (l.getD i z25).f2 (hs i (by omega))
    have hv := Ev.of (spec_ValueOK.mono _ _ _) ⟨k, h1⟩
    have e1 : ∀ k, spec_l11Valid.l0 (k + 1) l (l.length : Int) (i : Int) = (spec_ValueOK.f k (l.getD i z25).f0 (l.getD i z25).f1 (l.getD i z25).f2).bind fun t => if t = true then spec_l11Valid.l0 k l (l.length : Int) ((i + 1 : Nat) : Int) else some false := by
      intro k
      simp only [spec_l11Valid.l0]
      rw [if_pos (by omega), if_pos (by omega), if_pos (by omega), rd25, up1 i (by omega)]
    have e2 : ∀ k, impl_zBad.l0 (k + 1) l (l.length : Int) (i : Int) = if v = true then impl_zBad.l0 k l (l.length : Int) ((i + 1 : Nat) : Int) else some true := by
      intro k
      simp only [impl_zBad.l0]
      rw [if_pos (by omega), if_pos (by omega), if_pos (by omega), rd25, up1 i (by omega), h2, Option.bind_some]
    cases v with
    | false => exact ⟨false, Ev.succ (Ev.bind (g := fun k t => if t = true then spec_l11Valid.l0 k l (l.length : Int) ((i + 1 : Nat) : Int) else some false) hv (Ev.now false)) e1, Ev.succ (Ev.now true) e2, fun h => by cases h⟩
    | true =>
      obtain ⟨v, g1, g2, g3⟩ := ih (i + 1) (by omega)
      refine ⟨v, Ev.succ (Ev.bind (g := fun k t => if t = true then spec_l11Valid.l0 k l (l.length : Int) ((i + 1 : Nat) : Int) else some false) hv g1) e1, Ev.succ g2 e2, fun hv j hj hj2 => ?_⟩
      by_cases e : j = i
      · subst e; exact good_of _ _ _ h2
      · exact g3 hv j (by omega) hj2
theorem valid_told : ∃ v, Ev (fun k => spec_l11Valid.f k l) v ∧ Ev (fun k => impl_zBad.f k l) (!v) ∧ (v = true → l.length ≤ 16 ∧ ∀ j, j < l.length → Good (l.getD j z25)) := by
  by_cases c : (l.length : Int) > 16
  · refine ⟨false, ⟨0, fun m _ => ?_⟩, ⟨0, fun m _ => ?_⟩, fun h => by cases h⟩
    · show spec_l11Valid.f m l = _
      unfold spec_l11Valid.f
      rw [if_pos c]
    · show impl_zBad.f m l = _
      unfold impl_zBad.f
      rw [if_pos c]; rfl
  · obtain ⟨v, g1, g2, g3⟩ := valid_loop l hl hs l.length 0 (by omega)
    refine ⟨v, Ev.eq g1 (fun k => ?_), Ev.eq g2 (fun k => ?_), fun h => ⟨by omega, fun j hj => g3 h j (by omega) hj⟩⟩
    · unfold spec_l11Valid.f
      rw [if_neg c]
      rfl
    · unfold impl_zBad.f
      rw [if_neg c]
      rfl

/-! ### the bytes -/
omit hl hs in
theorem bytes_end (acc : List Int) (i : Nat) (hi : l.length ≤ i) : Ev (fun k => spec_RowBytes.l0 k acc l (l.length : Int) (i : Int)) (told acc) ∧ Ev (fun k => impl_RowBytes.l0 k acc l (l.length : Int) (i : Int)) (told acc) := by
  unfold told
  by_cases c : (acc.length : Int) > 4000
  · rw [if_pos c]
    refine ⟨⟨1, fun m hm => ?_⟩, ⟨1, fun m hm => ?_⟩⟩
    · obtain ⟨m, rfl⟩ : ∃ z, m = z + 1 := ⟨m - 1, by omega⟩
      simp only [spec_RowBytes.l0]
      rw [if_neg (by omega), if_pos c]
    · obtain ⟨m, rfl⟩ : ∃ z, m = z + 1 := ⟨m - 1, by omega⟩
      simp only [impl_RowBytes.l0]
      rw [if_neg (by omega), if_pos c]
  · rw [if_neg c]
    refine ⟨⟨1, fun m hm => ?_⟩, ⟨1, fun m hm => ?_⟩⟩
    · obtain ⟨m, rfl⟩ : ∃ z, m = z + 1 := ⟨m - 1, by omega⟩
      simp only [spec_RowBytes.l0]
      rw [if_neg (by omega), if_neg c]
    · obtain ⟨m, rfl⟩ : ∃ z, m = z + 1 := ⟨m - 1, by omega⟩
      simp only [impl_RowBytes.l0]
      rw [if_neg (by omega), if_neg c]
include hn
theorem bytes_loop : ∀ (n i : Nat) (acc : List Int), i + n = l.length → acc.length + n * 2000000 ≤ 10000000000 →
    Ev (fun k => spec_RowBytes.l0 k acc l (l.length : Int) (i : Int)) (told (acc ++ flat (l.drop i))) ∧ Ev (fun k => impl_RowBytes.l0 k acc l (l.length : Int) (i : Int)) (told (acc ++ flat (l.drop i))) := by
  intro n
  induction n with
  | zero =>
    intro i acc hi _
    rw [List.drop_of_length_le (by omega), show acc ++ flat [] = acc by simp [flat]]
    exact bytes_end l acc i (by omega)
  | succ n ih =>
    intro i acc hi hb
    have hsz := hs i (by omega)
    have hnn := hn i (by omega)
    rw [flat_drop l i (by omega)]
    generalize hx : l.getD i z25 = x at hsz hnn
    obtain ⟨fl, hfl⟩ : ∃ fl, fl = decide (x.f0 = 1 ∨ x.f0 = 2 ∨ x.f0 = 5) := ⟨_, rfl⟩
    have e1 : ∀ k, spec_RowBytes.l0 (k + 1) acc l (l.length : Int) (i : Int) = spec_RowBytes.j1 k (acc ++ [x.f0 % 256]) l (l.length : Int) (i : Int) x.f0 fl x.f0 x.f1 x.f2 := by
      intro k
      simp only [spec_RowBytes.l0]
      rw [if_pos (by omega), if_pos (by omega), if_pos (by omega), if_pos (by omega), rd25, hx, Option.bind_some, hfl]
      by_cases c1 : x.f0 = 1
      · rw [if_pos c1]; simp [c1]
      · rw [if_neg c1]
        by_cases c2 : x.f0 = 2
        · rw [if_pos c2]; simp [c2]
        · rw [if_neg c2]; simp only [c1, c2, false_or]; rfl
    have e2 : ∀ k, impl_RowBytes.l0 (k + 1) acc l (l.length : Int) (i : Int) = impl_RowBytes.j1 k (acc ++ [x.f0 % 256]) l (l.length : Int) (i : Int) x.f0 fl x.f0 x.f1 x.f2 := by
      intro k
      simp only [impl_RowBytes.l0]
      rw [if_pos (by omega), if_pos (by omega), if_pos (by omega), if_pos (by omega), rd25, hx, Option.bind_some, hfl]
      by_cases c1 : x.f0 = 1
      · rw [if_pos c1]; simp [c1]
      · rw [if_neg c1]
        by_cases c2 : x.f0 = 2
        · rw [if_pos c2]; simp [c2]
        · rw [if_neg c2]; simp only [c1, c2, false_or]; rfl
    obtain ⟨a, ha⟩ : ∃ a, a = acc ++ [x.f0 % 256] := ⟨_, rfl⟩
    have hal : a.length = acc.length + 1 := by rw [ha]; simp
    rw [← ha] at e1 e2
    have hen : ∀ c r : List Int, enc1 x = x.f0 % 256 :: c → acc ++ (enc1 x ++ r) = (a ++ c) ++ r := fun c r hc => by rw [hc, ha]; simp
    cases hc : fl with
    | true =>
      have hcc : x.f0 = 1 ∨ x.f0 = 2 ∨ x.f0 = 5 := by rw [hc] at hfl; exact of_decide_eq_true hfl.symm
      rw [hen (var 10 (fold x.f1)) _ (by unfold enc1; rw [if_pos hcc])]
      have hv := var_len 10 (fold x.f1)
      obtain ⟨g1, g2⟩ := ih (i + 1) (a ++ var 10 (fold x.f1)) (by omega) (by rw [List.length_append]; omega)
      have sv := spec_varint (fold x.f1) (fold_lt _ hnn.1 hnn.2)
      have iv := impl_varint (fold x.f1) a (fold_lt _ hnn.1 hnn.2) (by omega)
      have s1 : ∀ k, spec_RowBytes.j1 (k + 1) a l (l.length : Int) (i : Int) x.f0 fl x.f0 x.f1 x.f2 = (spec_l11Varint.f k ((fold x.f1 : Nat) : Int)).bind fun t => if a.length + t.length < 140737488355328 then spec_RowBytes.l0 k (a ++ t) l (l.length : Int) ((i + 1 : Nat) : Int) else none := by
        intro k
        simp only [spec_RowBytes.j1]
        rw [if_pos hc, spec_fold _ hnn.1 hnn.2, Option.bind_some, up1 i (by omega)]
      have s2 : ∀ k, impl_RowBytes.j1 (k + 1) a l (l.length : Int) (i : Int) x.f0 fl x.f0 x.f1 x.f2 = (impl_zVarint.f k a ((fold x.f1 : Nat) : Int)).bind fun t => impl_RowBytes.l0 k t l (l.length : Int) ((i + 1 : Nat) : Int) := by
        intro k
        simp only [impl_RowBytes.j1]
        rw [if_pos hc, impl_fold _ hnn.1 hnn.2, up1 i (by omega)]
      exact ⟨Ev.succ (Ev.succ (Ev.bind (g := fun k t => if a.length + t.length < 140737488355328 then spec_RowBytes.l0 k (a ++ t) l (l.length : Int) ((i + 1 : Nat) : Int) else none) sv (Ev.eq g1 (fun k => if_pos (by omega)))) s1) e1,
        Ev.succ (Ev.succ (Ev.bind (g := fun k t => impl_RowBytes.l0 k t l (l.length : Int) ((i + 1 : Nat) : Int)) iv g2) s2) e2⟩
    | false =>
      have hcc : ¬ (x.f0 = 1 ∨ x.f0 = 2 ∨ x.f0 = 5) := by rw [hc] at hfl; exact of_decide_eq_false hfl.symm
      by_cases c3 : x.f0 = 3
      · rw [hen (var 10 x.f2.size ++ bytesOf x.f2) _ (by unfold enc1; rw [if_neg hcc, if_pos c3]), ← List.append_assoc a]
        have hv := var_len 10 x.f2.size
        have hbl := bytesOf_length x.f2
        obtain ⟨g1, g2⟩ := ih (i + 1) (a ++ var 10 x.f2.size ++ bytesOf x.f2) (by omega) (by rw [List.length_append, List.length_append]; omega)
        have sv := spec_varint x.f2.size (by omega)
        have iv := impl_varint x.f2.size a (by omega) (by omega)
        have ez : IntKind.u64.wrap (x.f2.size : Int) = (x.f2.size : Int) := by rw [u64w]; omega
        have s1 : ∀ k, spec_RowBytes.j1 (k + 1) a l (l.length : Int) (i : Int) x.f0 fl x.f0 x.f1 x.f2 = (spec_l11Varint.f k (x.f2.size : Int)).bind fun t => if a.length + t.length < 140737488355328 then (some (a ++ t)).bind fun y => if y.length + x.f2.size < 140737488355328 then spec_RowBytes.l0 k (y ++ bytesOf x.f2) l (l.length : Int) ((i + 1 : Nat) : Int) else none else none := by
          intro k
          simp only [spec_RowBytes.j1]
          rw [if_neg (by rw [hc]; decide), if_pos c3, ez, up1 i (by omega)]
        have s2 : ∀ k, impl_RowBytes.j1 (k + 1) a l (l.length : Int) (i : Int) x.f0 fl x.f0 x.f1 x.f2 = (impl_zVarint.f k a (x.f2.size : Int)).bind fun t => if t.length + x.f2.size < 140737488355328 then impl_RowBytes.l0 k (t ++ bytesOf x.f2) l (l.length : Int) ((i + 1 : Nat) : Int) else none := by
          intro k
          simp only [impl_RowBytes.j1]
          rw [if_neg (by rw [hc]; decide), if_pos c3, ez, up1 i (by omega)]
        refine ⟨Ev.succ (Ev.succ (Ev.bind (g := fun k t => if a.length + t.length < 140737488355328 then (some (a ++ t)).bind fun y => if y.length + x.f2.size < 140737488355328 then spec_RowBytes.l0 k (y ++ bytesOf x.f2) l (l.length : Int) ((i + 1 : Nat) : Int) else none else none) sv (Ev.eq g1 (fun k => ?_))) s1) e1,
          Ev.succ (Ev.succ (Ev.bind (g := fun k t => if t.length + x.f2.size < 140737488355328 then impl_RowBytes.l0 k (t ++ bytesOf x.f2) l (l.length : Int) ((i + 1 : Nat) : Int) else none) iv (Ev.eq g2 (fun k => ?_))) s2) e2⟩
        · show (if a.length + (var 10 x.f2.size).length < 140737488355328 then _ else _) = _
          rw [if_pos (by omega), Option.bind_some, if_pos (by rw [List.length_append]; omega)]
        · show (if (a ++ var 10 x.f2.size).length + x.f2.size < 140737488355328 then _ else _) = _
          rw [if_pos (by rw [List.length_append]; omega)]
      · by_cases c4 : x.f0 = 4
        · rw [hen [x.f1 % 256] _ (by unfold enc1; rw [if_neg hcc, if_neg c3, if_pos c4])]
          obtain ⟨g1, g2⟩ := ih (i + 1) (a ++ [x.f1 % 256]) (by omega) (by rw [List.length_append]; simp; omega)
          refine ⟨Ev.succ (Ev.succ g1 (fun k => ?_)) e1, Ev.succ (Ev.succ g2 (fun k => ?_)) e2⟩
          · simp only [spec_RowBytes.j1]
            rw [if_neg (by rw [hc]; decide), if_neg c3, if_pos c4, if_pos (by omega), up1 i (by omega)]
          · simp only [impl_RowBytes.j1]
            rw [if_neg (by rw [hc]; decide), if_neg c3, if_pos c4, if_pos (by omega), up1 i (by omega)]
        · rw [hen [] _ (by unfold enc1; rw [if_neg hcc, if_neg c3, if_neg c4]), List.append_nil]
          obtain ⟨g1, g2⟩ := ih (i + 1) a (by omega) (by omega)
          refine ⟨Ev.succ (Ev.succ g1 (fun k => ?_)) e1, Ev.succ (Ev.succ g2 (fun k => ?_)) e2⟩
          · simp only [spec_RowBytes.j1]
            rw [if_neg (by rw [hc]; decide), if_neg c3, if_neg c4, up1 i (by omega)]
          · simp only [impl_RowBytes.j1]
            rw [if_neg (by rw [hc]; decide), if_neg c3, if_neg c4, up1 i (by omega)]

/-- What both RowBytes hand back. -/
theorem both_told : ∃ r, Ev (fun k => spec_RowBytes.f k l) r ∧ Ev (fun k => impl_RowBytes.f k l) r ∧ (r = ([], 1) ∨ (r = told ((l.length : Int) :: flat l) ∧ l.length ≤ 16 ∧ ∀ j, j < l.length → Good (l.getD j z25))) := by
  obtain ⟨v, h1, h2, h3⟩ := valid_told l hl hs
  cases v with
  | false => exact ⟨([], 1), Ev.bind (g := fun k t => if t = true then spec_RowBytes.l0 k [(l.length : Int) % 256] l (l.length : Int) 0 else some ([], 1)) h1 (Ev.now _), Ev.bind (g := fun k t => if t = true then some ([], 1) else impl_RowBytes.l0 k [(l.length : Int) % 256] l (l.length : Int) 0) h2 (Ev.now _), .inl rfl⟩
  | true =>
    obtain ⟨h16, hg⟩ := h3 rfl
    obtain ⟨g1, g2⟩ := bytes_loop l hl hs hn l.length 0 [(l.length : Int) % 256] (by omega) (by simp; omega)
    have e : [(l.length : Int) % 256] ++ flat (l.drop 0) = (l.length : Int) :: flat l := by
      rw [List.drop_zero, show (l.length : Int) % 256 = (l.length : Int) by omega]; rfl
    rw [e] at g1 g2
    exact ⟨_, Ev.bind (g := fun k t => if t = true then spec_RowBytes.l0 k [(l.length : Int) % 256] l (l.length : Int) 0 else some ([], 1)) h1 g1, Ev.bind (g := fun k t => if t = true then some ([], 1) else impl_RowBytes.l0 k [(l.length : Int) % 256] l (l.length : Int) 0) h2 g2, .inr ⟨rfl, h16, hg⟩⟩
end

/-! ### the readers -/
theorem nx_at {bs rest : List Int} {x c : Int} (h0 : 0 ≤ x) (h : bs.drop x.toNat = c :: rest) : nx bs x = c ∧ x < bs.length := by
  have hl : x.toNat < bs.length := by
    by_cases q : x.toNat < bs.length
    · exact q
    · rw [List.drop_of_length_le (by omega)] at h; cases h
  rw [List.drop_eq_getElem_cons hl] at h
  injection h with h1 h2
  unfold nx rd
  rw [if_pos (by omega)]
  exact ⟨by simp [List.getD, hl, h1], by omega⟩
theorem drop_steps {bs a rest : List Int} {x : Int} (h0 : 0 ≤ x) (h : bs.drop x.toNat = a ++ rest) {y : Int} (hy : y = x + a.length) : bs.drop y.toNat = rest := by
  rw [hy, show (x + a.length).toNat = x.toNat + a.length by omega, ← List.drop_drop, h]
  simp
theorem drop_le {bs a rest : List Int} {x : Int} (h0 : 0 ≤ x) (hx : x ≤ bs.length) (h : bs.drop x.toNat = a ++ rest) : x + a.length ≤ bs.length := by
  have e := congrArg List.length h
  simp at e
  omega
theorem seven_is (c v s : Nat) (hc : c < 256) (hv : v < 2 ^ s) (hb : v + c % 128 * 2 ^ s < 18446744073709551616) : seven (c : Int) (s : Int) (v : Int) = ((v + c % 128 * 2 ^ s : Nat) : Int) := by
  unfold seven
  have e1 : Go.bits .and .u8 (c : Int) 127 = ((c % 128 : Nat) : Int) := by
    show Go.bits .and .u8 (c : Int) ((127 : Nat) : Int) = _
    rw [u8_and_nat c 127 hc (by decide), nat_mask7]
  have e2 : ((c % 128 : Nat) : Int) * 2 ^ s % 18446744073709551616 = ((c % 128 * 2 ^ s : Nat) : Int) := by
    have : ((c % 128 : Nat) : Int) * 2 ^ s = ((c % 128 * 2 ^ s : Nat) : Int) := by rw [Int.natCast_mul, Int.natCast_pow]; rfl
    rw [this]; omega
  rw [e1, u64w, u64w, show ((c % 128 : Nat) : Int) % 18446744073709551616 = ((c % 128 : Nat) : Int) by omega, Int.toNat_natCast, e2, u64_or_nat _ _ (by omega) (by omega), Nat.or_comm, nat_join s _ v (Nat.mul_mod_left _ _) hv, Nat.add_comm]
theorem vr_var : ∀ (f m : Nat) (y : Int) (s v : Nat) (bs rest : List Int), m < 128 ^ f → 0 ≤ y → v < 2 ^ s → v + m * 2 ^ s < 18446744073709551616 → bs.drop y.toNat = var f m ++ rest →
    vr bs f y (s : Int) (v : Int) = (((v + m * 2 ^ s : Nat) : Int), y + (var f m).length) := by
  intro f
  induction f with
  | zero =>
    intro m y s v bs rest hm h0 hv hb h
    obtain rfl : m = 0 := by simpa using hm
    simp [vr, var]
  | succ f ih =>
    intro m y s v bs rest hm h0 hv hb h
    unfold var at h ⊢
    unfold vr
    by_cases c : 128 ≤ m
    · rw [if_pos c] at h ⊢
      obtain ⟨h1, h2⟩ := nx_at h0 h
      have hp : m / 128 * (128 * 2 ^ s) + m % 128 * 2 ^ s = m * 2 ^ s := by
        rw [← Nat.mul_assoc, ← Nat.add_mul]; congr 1; omega
      have h7 : 2 ^ (s + 7) = 128 * 2 ^ s := by rw [Nat.pow_add]; omega
      have hlt : m % 128 * 2 ^ s ≤ 127 * 2 ^ s := Nat.mul_le_mul_right _ (by omega)
      rw [h1, if_neg (by omega), seven_is _ v s (by omega) hv (by rw [show (m % 128 + 128) % 128 = m % 128 by omega]; omega), show (m % 128 + 128) % 128 = m % 128 by omega,
        show (s : Int) + 7 = ((s + 7 : Nat) : Int) by omega,
        ih (m / 128) (y + 1) (s + 7) _ bs rest (by rw [Nat.div_lt_iff_lt_mul (by decide)]; rw [Nat.pow_succ] at hm; exact hm) (by omega) (by rw [h7]; omega) (by rw [h7]; omega) (drop_steps h0 (show bs.drop y.toNat = [_] ++ (var f (m / 128) ++ rest) from h) rfl)]
      refine Prod.ext ?_ ?_
      · show (((_ : Nat)) : Int) = (((_ : Nat)) : Int)
        congr 1
        rw [h7]; omega
      · show y + 1 + ((var f (m / 128)).length : Int) = y + ((_ :: var f (m / 128)).length : Int)
        rw [List.length_cons]; omega
    · rw [if_neg c] at h ⊢
      obtain ⟨h1, h2⟩ := nx_at h0 h
      rw [h1, if_pos (by omega), seven_is m v s (by omega) hv (by rw [Nat.mod_eq_of_lt (by omega)]; exact hb), Nat.mod_eq_of_lt (by omega)]
      rfl
theorem vr10 (m : Nat) (y : Int) (bs rest : List Int) (hm : m < 18446744073709551616) (h0 : 0 ≤ y) (h : bs.drop y.toNat = var 10 m ++ rest) : vr bs 10 y 0 0 = ((m : Int), y + (var 10 m).length) := by
  have := vr_var 10 m y 0 0 bs rest (Nat.lt_of_lt_of_le hm (by decide)) h0 (by decide) (by simpa using hm) h
  simpa using this
theorem i64_not' (x : Nat) (hx : x < 9223372036854775808) : Go.bits .xor .i64 (x : Int) (-1) = -(x : Int) - 1 := by
  have h := Lib.i64_not x hx
  have e : Go.bits .xor .i64 (x : Int) (-1) = Go.bits .xor .i64 (-1) (x : Int) := by
    show IntKind.i64.wrap ((BitVec.ofInt 64 (x : Int) ^^^ BitVec.ofInt 64 (-1)).toNat : Int) = IntKind.i64.wrap ((BitVec.ofInt 64 (-1) ^^^ BitVec.ofInt 64 (x : Int)).toNat : Int)
    rw [BitVec.xor_comm]
  rw [e, h]
theorem i64_zero (x : Nat) (hx : x < 9223372036854775808) : Go.bits .xor .i64 (x : Int) 0 = (x : Int) := by
  show IntKind.i64.wrap ((BitVec.ofInt 64 (x : Int) ^^^ BitVec.ofInt 64 0).toNat : Int) = _
  rw [show BitVec.ofInt 64 0 = 0#64 from rfl, BitVec.xor_zero, BitVec.ofInt_natCast, BitVec.toNat_ofNat, Nat.mod_eq_of_lt (by omega), IntKind.wrap_i64]
  omega
theorem num_fold (a : Int) (h0 : -9223372036854775808 ≤ a) (h1 : a ≤ 9223372036854775807) : num ((fold a : Nat) : Int) = a := by
  have hf := fold_lt a h0 h1
  unfold num
  rw [Lib.u64_and1 _ (by omega) (by omega)]
  unfold fold at hf ⊢
  by_cases c : 0 ≤ a
  · rw [if_pos c] at hf ⊢
    rw [show (((2 * a).toNat : Int) / 2) = (a.toNat : Int) by omega, show wrap64 (-(wrap64 (((2 * a).toNat : Int) % 2))) = 0 by unfold wrap64; omega, i64_zero _ (by omega)]
    omega
  · rw [if_neg c] at hf ⊢
    rw [show (((-2 * a - 1).toNat : Int) / 2) = ((-a - 1).toNat : Int) by omega, show wrap64 (-(wrap64 (((-2 * a - 1).toNat : Int) % 2))) = -1 by unfold wrap64; omega, i64_not' _ (by omega)]
    omega
theorem num_range (u : Int) : -9223372036854775808 ≤ num u ∧ num u ≤ 9223372036854775807 := by
  unfold num
  generalize u / 2 = p
  generalize wrap64 (-(wrap64 (Go.bits .and .u64 u 1))) = q
  show -9223372036854775808 ≤ IntKind.i64.wrap ((BitVec.ofInt 64 p ^^^ BitVec.ofInt 64 q).toNat : Int) ∧ IntKind.i64.wrap ((BitVec.ofInt 64 p ^^^ BitVec.ofInt 64 q).toNat : Int) ≤ 9223372036854775807
  rw [IntKind.wrap_i64]
  omega
theorem str_back (s : ByteArray) : strOfNums (bytesOf s) = s := by
  unfold strOfNums bytesOf
  rw [List.map_map]
  have e : ((fun n : Int => UInt8.ofNat n.toNat) ∘ fun b : UInt8 => (b.toNat : Int)) = id := by
    funext b
    simp
  rw [e, List.map_id]
theorem str_size (l : List Int) : (strOfNums l).size = l.length := by
  show (List.toArray (l.map fun n : Int => UInt8.ofNat n.toNat)).size = _
  simp
theorem empty_of {s : ByteArray} (h : s.toList = []) : s = ⟨#[]⟩ := by
  rw [ByteArray.toList_eq] at h
  cases s with
  | mk d =>
    cases d with
    | mk l =>
      have h : l = [] := h
      rw [h]
theorem w64n (n : Int) (h0 : 0 ≤ n) (h1 : n < 256) : wrap64 n = n := by unfold wrap64; omega
/-- What a value must be for the bytes to be told. -/
def Fit (v : S25) : Prop := v.f2.size ≤ 1048576 ∧ -9223372036854775808 ≤ v.f1 ∧ v.f1 ≤ 9223372036854775807
theorem num_text (f0 : Int) (y : Int) : Fit ⟨f0, num y, ⟨#[]⟩⟩ := ⟨Nat.zero_le _, num_range y⟩
theorem item_good (bs rest : List Int) (v : S25) (hg : Good v) (hf : Fit v) (x : Int) (h0 : 0 ≤ x) (hx : x ≤ bs.length) (hl : bs.length ≤ 1048576) (h : bs.drop x.toNat = enc1 v ++ rest) : rvItem bs x = some (v, x + (enc1 v).length) := by
  obtain ⟨a, b, s⟩ := v
  obtain ⟨hs, hb0, hb1⟩ := hf
  have hs : s.size ≤ 1048576 := hs
  have hb0 : -9223372036854775808 ≤ b := hb0
  have hb1 : b ≤ 9223372036854775807 := hb1
  have hle := drop_le h0 hx h
  unfold enc1 at h hle ⊢
  have h : bs.drop x.toNat = a % 256 :: ((if a = 1 ∨ a = 2 ∨ a = 5 then var 10 (fold b) else if a = 3 then var 10 s.size ++ bytesOf s else if a = 4 then [b % 256] else []) ++ rest) := h
  obtain ⟨h1, h2⟩ := nx_at h0 h
  have ht := drop_steps (a := [a % 256]) h0 h (y := x + 1) rfl
  have hf := fold_lt b hb0 hb1
  have ez : z25.f2 = z25.f2 := rfl
  unfold rvItem
  rw [h1]
  have num_case : (a = 1 ∨ a = 2 ∨ a = 5) → s.toList = [] → rvItem bs x = some ((⟨a, b, s⟩ : S25), x + ((a % 256 :: (if a = 1 ∨ a = 2 ∨ a = 5 then var 10 (fold b) else if a = 3 then var 10 s.size ++ bytesOf s else if a = 4 then [b % 256] else []) : List Int).length : Int)) := by
    intro ha hs0
    have hk : wrap64 (nx bs x) = a := by rw [h1, show a % 256 = a by omega, w64n a (by omega) (by omega)]
    rw [if_pos ha] at ht ⊢
    unfold rvItem
    rw [hk, if_neg (by omega), if_pos ha, vr10 _ _ bs rest hf (by omega) ht, empty_of hs0]
    show some (((⟨a, num ((fold b : Nat) : Int), ⟨#[]⟩⟩ : S25), x + 1 + ((var 10 (fold b)).length : Int))) = _
    rw [num_fold b hb0 hb1, List.length_cons]
    congr 2
    omega
  unfold rvItem at num_case
  rw [h1] at num_case
  rcases hg with ⟨g0, g1, g2⟩ | ⟨g0, g2⟩ | ⟨g0, g2⟩ | ⟨g0, g1⟩ | ⟨g0, g2, g1⟩ | ⟨g0, g2⟩
  · have g0 : a = 0 := g0
    have g1 : b = 0 := g1
    have e0 := empty_of (s := s) g2
    clear g2 num_case
    subst e0 g0 g1
    rw [show wrap64 (0 % 256) = 0 by rw [w64n _ (by decide) (by decide)]; rfl, if_pos rfl]
    rfl
  · exact num_case (.inl g0) g2
  · exact num_case (.inr (.inl g0)) g2
  · have g0 : a = 3 := g0
    have g1 : b = 0 := g1
    subst g0; subst g1
    clear num_case
    rw [show wrap64 (3 % 256) = 3 by rw [w64n _ (by decide) (by decide)]; rfl, if_neg (by decide), if_neg (by decide), if_pos rfl]
    rw [if_neg (by decide), if_pos rfl] at ht
    replace ht : bs.drop (x + 1).toNat = (var 10 s.size ++ bytesOf s) ++ rest := ht
    rw [List.append_assoc] at ht
    rw [if_neg (show ¬ ((3 : Int) = 1 ∨ (3 : Int) = 2 ∨ (3 : Int) = 5) by decide), if_pos (show (3 : Int) = 3 from rfl)] at hle
    replace hle : x + (((3 % 256 :: (var 10 s.size ++ bytesOf s) : List Int).length : Nat) : Int) ≤ bs.length := hle
    rw [vr10 _ _ bs _ (by omega) (by omega) ht]
    have hle2 : x + (1 + (var 10 s.size).length + s.size : Nat) ≤ bs.length := by
      rw [List.length_cons, List.length_append, bytesOf_length] at hle
      omega
    have ht2 := drop_steps (show 0 ≤ x + 1 by omega) ht rfl
    show (if ((s.size : Nat) : Int) > bs.length ∨ x + 1 + ((var 10 s.size).length : Int) + (s.size : Int) > bs.length then _ else _) = _
    rw [if_neg (by omega)]
    show some ((⟨3, 0, strOfNums ((bs.drop (x + 1 + ((var 10 s.size).length : Int)).toNat).take ((s.size : Nat) : Int).toNat)⟩ : S25), x + 1 + ((var 10 s.size).length : Int) + (s.size : Int)) = _
    rw [ht2, Int.toNat_natCast, List.take_append_of_le_length (by rw [bytesOf_length]; omega), List.take_of_length_le (by rw [bytesOf_length]; omega), str_back]
    show _ = some ((⟨3, 0, s⟩ : S25), x + (((3 % 256 :: (if (3 : Int) = 1 ∨ (3 : Int) = 2 ∨ (3 : Int) = 5 then var 10 (fold 0) else if (3 : Int) = 3 then var 10 s.size ++ bytesOf s else if (3 : Int) = 4 then [(0 : Int) % 256] else []) : List Int).length : Nat) : Int))
    rw [if_neg (by decide), if_pos rfl, List.length_cons, List.length_append, bytesOf_length]
    congr 2
    omega
  · have g0 : a = 4 := g0
    have e0 := empty_of (s := s) g2
    have g1 : b = 0 ∨ b = 1 := g1
    clear g2 num_case
    subst e0 g0
    rw [show wrap64 (4 % 256) = 4 by rw [w64n _ (by decide) (by decide)]; rfl, if_neg (by decide), if_neg (by decide), if_neg (by decide), if_pos rfl]
    rw [if_neg (by decide), if_neg (by decide), if_pos rfl] at ht
    obtain ⟨h3, h4⟩ := nx_at (show 0 ≤ x + 1 by omega) ht
    rw [h3, show b % 256 = b by omega, w64n b (by omega) (by omega)]
    rfl
  · exact num_case (.inr (.inr g0)) g2
theorem go_good (bs : List Int) (hl : bs.length ≤ 1048576) : ∀ (l : List S25) (x : Int) (out : List S25) (rest : List Int), 0 ≤ x → x ≤ bs.length → (∀ v, v ∈ l → Good v ∧ Fit v) → bs.drop x.toNat = flat l ++ rest → rvGo bs l.length x out = some (out ++ l)
  | [], x, out, rest, _, _, _, _ => by simp [rvGo]
  | v :: l, x, out, rest, h0, hx, hg, h => by
    have hv := hg v (List.mem_cons_self ..)
    have h' : bs.drop x.toNat = enc1 v ++ (flat l ++ rest) := by rw [h]; simp [flat]
    have hle := drop_le h0 hx h'
    show (rvItem bs x).bind _ = _
    rw [item_good bs _ v hv.1 hv.2 x h0 hx hl h', Option.bind_some]
    show rvGo bs l.length (x + (enc1 v).length) (out ++ [v]) = _
    rw [go_good bs hl l _ _ rest (by omega) (by omega) (fun u hu => hg u (List.mem_cons_of_mem _ hu)) (drop_steps h0 h' rfl)]
    simp
theorem item_fit (bs : List Int) (hl : bs.length ≤ 1048576) (x : Int) (r : S25 × Int) (h : rvItem bs x = some r) : Fit r.1 := by
  unfold rvItem at h
  by_cases c0 : wrap64 (nx bs x) = 0
  · rw [if_pos c0] at h; obtain rfl := Option.some.inj h; exact ⟨Nat.zero_le _, by show (-9223372036854775808 : Int) ≤ 0; decide, by show (0 : Int) ≤ 9223372036854775807; decide⟩
  rw [if_neg c0] at h
  by_cases c1 : wrap64 (nx bs x) = 1 ∨ wrap64 (nx bs x) = 2 ∨ wrap64 (nx bs x) = 5
  · rw [if_pos c1] at h; obtain rfl := Option.some.inj h; exact num_text _ _
  rw [if_neg c1] at h
  by_cases c3 : wrap64 (nx bs x) = 3
  · rw [if_pos c3] at h
    by_cases c : (vr bs 10 (x + 1) 0 0).1 > bs.length ∨ (vr bs 10 (x + 1) 0 0).2 + (vr bs 10 (x + 1) 0 0).1 > bs.length
    · rw [if_pos c] at h; cases h
    · rw [if_neg c] at h
      obtain rfl := Option.some.inj h
      refine ⟨?_, by show (-9223372036854775808 : Int) ≤ 0; decide, by show (0 : Int) ≤ 9223372036854775807; decide⟩
      show (strOfNums _).size ≤ _
      rw [str_size, List.length_take, List.length_drop]
      omega
  rw [if_neg c3] at h
  by_cases c4 : wrap64 (nx bs x) = 4
  · rw [if_pos c4] at h
    obtain rfl := Option.some.inj h
    refine ⟨Nat.zero_le _, ?_, ?_⟩
    · show -9223372036854775808 ≤ wrap64 _
      unfold wrap64; omega
    · show wrap64 _ ≤ 9223372036854775807
      unfold wrap64; omega
  · rw [if_neg c4] at h; cases h
theorem go_fit (bs : List Int) (hl : bs.length ≤ 1048576) : ∀ (n : Nat) (x : Int) (out r : List S25), (∀ v, v ∈ out → Fit v) → rvGo bs n x out = some r → (∀ v, v ∈ r → Fit v) ∧ r.length = out.length + n
  | 0, x, out, r, ho, h => by
    obtain rfl : out = r := Option.some.inj h
    exact ⟨ho, rfl⟩
  | n + 1, x, out, r, ho, h => by
    have h : (rvItem bs x).bind (fun r => rvGo bs n r.2 (out ++ [r.1])) = some r := h
    cases e : rvItem bs x with
    | none => rw [e] at h; cases h
    | some p =>
      rw [e, Option.bind_some] at h
      have hp := item_fit bs hl x p e
      obtain ⟨h1, h2⟩ := go_fit bs hl n p.2 (out ++ [p.1]) r (fun v hv => by
        rcases List.mem_append.1 hv with hv | hv
        · exact ho v hv
        · simp at hv; subst hv; exact hp) h
      exact ⟨h1, by rw [h2, List.length_append]; simp; omega⟩
theorem at_mem (l : List S25) (i : Nat) (hi : i < l.length) : l.getD i z25 ∈ l := by
  simp [List.getD, hi]
theorem mem_at (l : List S25) (v : S25) (hv : v ∈ l) : ∃ i, i < l.length ∧ v = l.getD i z25 := by
  obtain ⟨i, hi, e⟩ := List.getElem_of_mem hv
  exact ⟨i, hi, by simp [List.getD, hi, e]⟩
/-! ### the reference's reader -/
theorem bt_in {bs : List Int} (hb : ∀ x, x ∈ bs → 0 ≤ x ∧ x < 256) (i : Int) : 0 ≤ rd bs i ∧ rd bs i < 256 := by
  unfold rd
  by_cases h : i.toNat < bs.length
  · have := hb (bs[i.toNat]) (List.getElem_mem h)
    simpa [List.getD, h] using this
  · have e : bs.getD i.toNat 0 = 0 := by simp [List.getD, Nat.le_of_not_lt h]
    rw [e]; omega
theorem tmod128 (c : Int) (h0 : 0 ≤ c) (h1 : c < 256) : IntKind.u64.wrap (Int.tmod c 128) = c % 128 := by
  rw [u64w, Int.tmod_eq_emod_of_nonneg h0]; omega
theorem read_any (bs : List Int) (hb : ∀ x, x ∈ bs → 0 ≤ x ∧ x < 256) (hl : bs.length ≤ 1048576) : ∀ (f i : Nat) (v p : Int), i + f = 10 → 0 ≤ v → v < 18446744073709551616 →
    ∃ n j : Int, Ev (fun k => spec_l11ReadVarint.l0 k bs v p (i : Int)) (n, j) ∧ 0 ≤ n ∧ n < 18446744073709551616 ∧ 0 ≤ j ∧ j ≤ bs.length := by
  intro f
  induction f with
  | zero =>
    intro i v p hi h0 h1
    have e2 : ∀ k, spec_l11ReadVarint.j1 (k + 1) bs v p (i : Int) false = some (0, 0) := fun k => by simp only [spec_l11ReadVarint.j1]; rw [if_neg (by decide)]
    refine ⟨0, 0, Ev.succ (g := fun k => spec_l11ReadVarint.j1 k bs v p (i : Int) false) (Ev.succ (Ev.now _) e2) (fun k => ?_), by decide, by decide, by decide, by omega⟩
    simp only [spec_l11ReadVarint.l0]
    rw [show decide ((i : Int) < 10) = false by apply decide_eq_false; omega]
    split <;> rfl
  | succ f ih =>
    intro i v p hi h0 h1
    by_cases c : (i : Int) < (bs.length : Int)
    · have hr := bt_in hb (i : Int)
      have e1 : ∀ k, spec_l11ReadVarint.l0 (k + 1) bs v p (i : Int) = spec_l11ReadVarint.j1 k bs v p (i : Int) true := fun k => by
        simp only [spec_l11ReadVarint.l0]
        rw [if_pos c, show decide ((i : Int) < 10) = true by apply decide_eq_true; omega]
      have e3 : wrap64 ((i : Int) + 1) = ((i + 1 : Nat) : Int) := up1 i (by omega)
      by_cases c2 : rd bs (i : Int) < 128
      · refine ⟨_, ((i + 1 : Nat) : Int), Ev.succ (g := fun k => spec_l11ReadVarint.j1 k bs v p (i : Int) true) (Ev.succ (Ev.now _) (fun k => by
          simp only [spec_l11ReadVarint.j1]
          rw [if_pos trivial, if_pos (by omega), if_pos c, if_pos c2, e3])) e1, ?_, ?_, by omega, by omega⟩
        · rw [u64w]; omega
        · rw [u64w]; omega
      · obtain ⟨n, j, g1, g2, g3, g4, g5⟩ := ih (i + 1) (IntKind.u64.wrap (v + (IntKind.u64.wrap ((IntKind.u64.wrap (Int.tmod (rd bs (i : Int)) 128)) * p)))) (IntKind.u64.wrap (p * 128)) (by omega) (by rw [u64w]; omega) (by rw [u64w]; omega)
        refine ⟨n, j, Ev.succ (g := fun k => spec_l11ReadVarint.j1 k bs v p (i : Int) true) (Ev.succ g1 (fun k => by
          simp only [spec_l11ReadVarint.j1]
          rw [if_pos trivial, if_pos (by omega), if_pos c, if_neg c2, e3])) e1, g2, g3, g4, g5⟩
    · have e2 : ∀ k, spec_l11ReadVarint.j1 (k + 1) bs v p (i : Int) false = some (0, 0) := fun k => by simp only [spec_l11ReadVarint.j1]; rw [if_neg (by decide)]
      refine ⟨0, 0, Ev.succ (g := fun k => spec_l11ReadVarint.j1 k bs v p (i : Int) false) (Ev.succ (Ev.now _) e2) (fun k => ?_), by decide, by decide, by decide, by omega⟩
      simp only [spec_l11ReadVarint.l0]
      rw [if_neg c]
theorem read_var (bs : List Int) (hl : bs.length ≤ 1048576) : ∀ (f m i v : Nat) (rest : List Int), i + (f + 1) = 10 → m < 128 ^ (f + 1) → v + m * 128 ^ i < 18446744073709551616 → bs.drop i = var (f + 1) m ++ rest →
    Ev (fun k => spec_l11ReadVarint.l0 k bs (v : Int) ((128 ^ i : Nat) : Int) (i : Int)) (((v + m * 128 ^ i : Nat) : Int), ((i + (var (f + 1) m).length : Nat) : Int)) := by
  intro f
  induction f with
  | zero =>
    intro m i v rest hi hm hb h
    unfold var at h ⊢
    rw [if_neg (by omega)] at h ⊢
    obtain ⟨h1, h2⟩ := nx_at (x := (i : Int)) (by omega) (by rw [Int.toNat_natCast]; exact h)
    have hr : rd bs (i : Int) = (m : Int) := by rw [← h1]; exact (if_pos h2).symm
    obtain rfl : i = 9 := by omega
    have e1 : ∀ k, spec_l11ReadVarint.l0 (k + 1) bs (v : Int) ((128 ^ 9 : Nat) : Int) ((9 : Nat) : Int) = spec_l11ReadVarint.j1 k bs (v : Int) ((128 ^ 9 : Nat) : Int) ((9 : Nat) : Int) true := fun k => by
      simp only [spec_l11ReadVarint.l0]
      rw [if_pos h2]; rfl
    refine Ev.succ (g := fun k => spec_l11ReadVarint.j1 k bs (v : Int) ((128 ^ 9 : Nat) : Int) ((9 : Nat) : Int) true) (Ev.succ (Ev.now _) (fun k => ?_)) e1
    simp only [spec_l11ReadVarint.j1]
    rw [if_pos trivial, if_pos (by omega), if_pos h2, hr, if_pos (by omega), tmod128 _ (by omega) (by omega), up1 9 (by omega), u64w, u64w]
    have hp : ((128 ^ 9 : Nat) : Int) = 9223372036854775808 := by decide
    have hp2 : (128 ^ 9 : Nat) = 9223372036854775808 := by decide
    rw [hp2] at hb
    have hmul : ((m * 9223372036854775808 : Nat) : Int) = (m : Int) * 9223372036854775808 := by omega
    rw [hp, show (m : Int) % 128 = (m : Int) by omega]
    congr 2
    · rw [hp2]; omega
  | succ f ih =>
    intro m i v rest hi hm hb h
    obtain ⟨q, hq⟩ : ∃ q, q = f + 1 := ⟨_, rfl⟩
    rw [← hq] at ih hi hm h ⊢
    unfold var at h ⊢
    have h7 : 128 ^ (i + 1) = 128 * 128 ^ i := by rw [Nat.pow_succ]; omega
    have hpl : 128 ^ i ≤ 128 ^ 8 := Nat.pow_le_pow_right (by decide) (by omega)
    have hp8 : (128 ^ 8 : Nat) = 72057594037927936 := by decide
    by_cases c : 128 ≤ m
    · rw [if_pos c] at h ⊢
      obtain ⟨h1, h2⟩ := nx_at (x := (i : Int)) (by omega) (by rw [Int.toNat_natCast]; exact h)
      have hr : rd bs (i : Int) = ((m % 128 + 128 : Nat) : Int) := by rw [← h1]; exact (if_pos h2).symm
      have hp : m / 128 * (128 * 128 ^ i) + m % 128 * 128 ^ i = m * 128 ^ i := by
        rw [← Nat.mul_assoc, ← Nat.add_mul]; congr 1; omega
      have ht := drop_steps (x := (i : Int)) (by omega) (show bs.drop (i : Int).toNat = [((m % 128 + 128 : Nat) : Int)] ++ (var q (m / 128) ++ rest) by rw [Int.toNat_natCast]; exact h) (y := ((i + 1 : Nat) : Int)) (by rw [List.length_singleton]; omega)
      rw [Int.toNat_natCast] at ht
      have g := ih (m / 128) (i + 1) (v + m % 128 * 128 ^ i) rest (by omega) (by rw [Nat.div_lt_iff_lt_mul (by decide)]; rw [Nat.pow_succ] at hm; exact hm) (by rw [h7]; omega) ht
      have e1 : ∀ k, spec_l11ReadVarint.l0 (k + 1) bs (v : Int) ((128 ^ i : Nat) : Int) (i : Int) = spec_l11ReadVarint.j1 k bs (v : Int) ((128 ^ i : Nat) : Int) (i : Int) true := fun k => by
        simp only [spec_l11ReadVarint.l0]
        rw [if_pos h2, show decide ((i : Int) < 10) = true by apply decide_eq_true; omega]
      have hm1 : ((m % 128 : Nat) : Int) * ((128 ^ i : Nat) : Int) = ((m % 128 * 128 ^ i : Nat) : Int) := by rw [Int.natCast_mul]
      have hlt : m % 128 * 128 ^ i ≤ m * 128 ^ i := Nat.mul_le_mul_right _ (Nat.mod_le _ _)
      have g2 : Ev (fun k => spec_l11ReadVarint.j1 k bs (v : Int) ((128 ^ i : Nat) : Int) (i : Int) true) (((v + m % 128 * 128 ^ i + m / 128 * 128 ^ (i + 1) : Nat) : Int), ((i + 1 + (var q (m / 128)).length : Nat) : Int)) := by
        refine Ev.succ g (fun k => ?_)
        simp only [spec_l11ReadVarint.j1]
        rw [if_pos trivial, if_pos (by omega), if_pos h2, hr, if_neg (by omega), tmod128 _ (by omega) (by omega), up1 i (by omega), show ((m % 128 + 128 : Nat) : Int) % 128 = ((m % 128 : Nat) : Int) by omega, hm1, u64w, u64w, u64w]
        congr 1
        · omega
        · rw [h7]; omega
      have e3 : (((v + m * 128 ^ i : Nat) : Int), ((i + ((((m % 128 + 128 : Nat) : Int) :: var q (m / 128)).length) : Nat) : Int)) = (((v + m % 128 * 128 ^ i + m / 128 * 128 ^ (i + 1) : Nat) : Int), ((i + 1 + (var q (m / 128)).length : Nat) : Int)) := by
        refine Prod.ext ?_ ?_
        · show ((_ : Nat) : Int) = ((_ : Nat) : Int)
          congr 1; rw [h7]; omega
        · show ((_ : Nat) : Int) = ((_ : Nat) : Int)
          congr 1; rw [List.length_cons]; omega
      rw [e3]
      exact Ev.succ (g := fun k => spec_l11ReadVarint.j1 k bs (v : Int) ((128 ^ i : Nat) : Int) (i : Int) true) g2 e1
    · rw [if_neg c] at h ⊢
      obtain ⟨h1, h2⟩ := nx_at (x := (i : Int)) (by omega) (by rw [Int.toNat_natCast]; exact h)
      have hr : rd bs (i : Int) = (m : Int) := by rw [← h1]; exact (if_pos h2).symm
      have e1 : ∀ k, spec_l11ReadVarint.l0 (k + 1) bs (v : Int) ((128 ^ i : Nat) : Int) (i : Int) = spec_l11ReadVarint.j1 k bs (v : Int) ((128 ^ i : Nat) : Int) (i : Int) true := fun k => by
        simp only [spec_l11ReadVarint.l0]
        rw [if_pos h2, show decide ((i : Int) < 10) = true by apply decide_eq_true; omega]
      refine Ev.succ (g := fun k => spec_l11ReadVarint.j1 k bs (v : Int) ((128 ^ i : Nat) : Int) (i : Int) true) (Ev.succ (Ev.now _) (fun k => ?_)) e1
      have hm1 : (m : Int) * ((128 ^ i : Nat) : Int) = ((m * 128 ^ i : Nat) : Int) := by rw [Int.natCast_mul]
      simp only [spec_l11ReadVarint.j1]
      rw [if_pos trivial, if_pos (by omega), if_pos h2, hr, if_pos (by omega), tmod128 _ (by omega) (by omega), up1 i (by omega), show (m : Int) % 128 = (m : Int) by omega, hm1, u64w, u64w]
      congr 2
      omega

theorem read_told (m : Nat) (rest : List Int) (hm : m < 18446744073709551616) (hl : (var 10 m ++ rest).length ≤ 1048576) : Ev (fun k => spec_l11ReadVarint.f k (var 10 m ++ rest)) ((m : Int), ((var 10 m).length : Int)) := by
  have h := read_var (var 10 m ++ rest) hl 9 m 0 0 rest rfl (Nat.lt_of_lt_of_le hm (by decide)) (by simpa using hm) rfl
  show Ev (fun k => spec_l11ReadVarint.l0 k (var 10 m ++ rest) 0 1 0) _
  simpa using h
theorem var_pos (f n : Nat) : 0 < (var (f + 1) n).length := by
  unfold var; split <;> simp
theorem unfold_fold (a : Int) (h0 : -9223372036854775808 ≤ a) (h1 : a ≤ 9223372036854775807) : spec_l11Unfold.f ((fold a : Nat) : Int) = some a := by
  unfold spec_l11Unfold.f
  rw [u64w, Int.tmod_eq_emod_of_nonneg (by omega), show Int.tdiv ((fold a : Nat) : Int) 2 = ((fold a / 2 : Nat) : Int) from rfl]
  have hf := fold_lt a h0 h1
  unfold fold at hf ⊢
  by_cases c : 0 ≤ a
  · rw [if_pos c] at hf ⊢
    rw [if_neg (by omega)]
    congr 1
    unfold wrap64; omega
  · rw [if_neg c] at hf ⊢
    rw [if_pos (by omega)]
    congr 1
    unfold wrap64; omega
theorem unfold_any (u : Int) : ∃ a, spec_l11Unfold.f u = some a ∧ -9223372036854775808 ≤ a ∧ a ≤ 9223372036854775807 := by
  unfold spec_l11Unfold.f
  by_cases c : Int.tmod u 2 = 1
  · rw [if_pos c]; exact ⟨_, rfl, by unfold wrap64; omega, by unfold wrap64; omega⟩
  · rw [if_neg c]; exact ⟨_, rfl, by unfold wrap64; omega, by unfold wrap64; omega⟩

/-! ### the reference's guess -/
theorem guess_end (acc : List S25) : Ev (fun k => spec_l11RowGuess.l0 k [] acc) acc :=
  Ev.succ (Ev.now _) (fun k => by simp only [spec_l11RowGuess.l0]; rw [if_neg (by decide)])
theorem guess_head (c : Int) (t : List Int) (acc : List S25) (h0 : 0 ≤ c) (h1 : c < 256) (k : Nat) :
    spec_l11RowGuess.l0 (k + 1) (c :: t) acc = spec_l11RowGuess.j1 k t acc c (decide (c = 1 ∨ c = 2 ∨ c = 5 ∨ c = 3)) c 0 ⟨#[]⟩ := by
  have hr : rd (c :: t) 0 = c := rfl
  have hw : wrap64 c = c := w64n c h0 h1
  simp only [spec_l11RowGuess.l0]
  rw [if_pos (by rw [List.length_cons]; omega), if_pos (by rw [List.length_cons]; omega), if_pos (by rw [List.length_cons]; omega), hr, hw, Option.bind_some, List.drop_succ_cons, List.drop_zero]
  by_cases c1 : c = 1
  · rw [if_pos c1]; simp [c1]
  rw [if_neg c1]
  by_cases c2 : c = 2
  · rw [if_pos c2]; simp [c2]
  rw [if_neg c2]
  by_cases c5 : c = 5
  · rw [if_pos c5]; simp [c5]
  rw [if_neg c5]
  simp only [c1, c2, c5, false_or]; rfl
theorem text_pick (b rest : List Int) (n : Nat) (hn : b.length = n) (hl : n + rest.length ≤ 1048576) (acc : List S25) (ha : acc.length ≤ 1000000000) (k : Nat) :
    (if (n : Int) > IntKind.u64.wrap (((b ++ rest).length : Int)) then some acc else if 0 ≤ wrap64 (n : Int) then if wrap64 (n : Int) ≤ ((b ++ rest).length : Int) then if acc.length < 4398046511104 then spec_l11RowGuess.l0 k ((b ++ rest).drop (wrap64 (n : Int) : Int).toNat) (acc ++ [(⟨3, 0, strOfNums ((b ++ rest).take (wrap64 (n : Int) : Int).toNat)⟩ : S25)]) else none else none else none)
      = spec_l11RowGuess.l0 k rest (acc ++ [⟨3, 0, strOfNums b⟩]) := by
  subst hn
  have hw : wrap64 (b.length : Int) = (b.length : Int) := by unfold wrap64; omega
  have hll : (b ++ rest).length = b.length + rest.length := List.length_append
  rw [hw, hll, u64w, if_neg (by omega), if_pos (by omega), if_pos (by omega), if_pos (by omega), Int.toNat_natCast, List.drop_left, List.take_left]
theorem guess_step (v : S25) (hg : Good v) (hf : Fit v) (rest : List Int) (acc r : List S25) (ha : acc.length ≤ 1000000000) (hl : (enc1 v ++ rest).length ≤ 1048576) (h : Ev (fun k => spec_l11RowGuess.l0 k rest (acc ++ [v])) r) :
    Ev (fun k => spec_l11RowGuess.l0 k (enc1 v ++ rest) acc) r := by
  obtain ⟨a, b, s⟩ := v
  obtain ⟨hs, hb0, hb1⟩ := hf
  have hs : s.size ≤ 1048576 := hs
  have hb0 : -9223372036854775808 ≤ b := hb0
  have hb1 : b ≤ 9223372036854775807 := hb1
  have hfl := fold_lt b hb0 hb1
  have num_case : (a = 1 ∨ a = 2 ∨ a = 5) → s.toList = [] → Ev (fun k => spec_l11RowGuess.l0 k (enc1 ⟨a, b, s⟩ ++ rest) acc) r := by
    intro hq hs0
    have e : enc1 ⟨a, b, s⟩ = a :: var 10 (fold b) := by
      unfold enc1
      show a % 256 :: (if a = 1 ∨ a = 2 ∨ a = 5 then var 10 (fold b) else _) = _
      rw [if_pos hq, show a % 256 = a by omega]
    rw [e] at hl ⊢
    have hl2 : (var 10 (fold b) ++ rest).length ≤ 1048576 := by
      rw [List.cons_append, List.length_cons] at hl; omega
    have hrd := read_told (fold b) rest hfl hl2
    have hp : 0 < (var 10 (fold b)).length := var_pos 9 (fold b)
    rw [empty_of hs0] at h
    refine Ev.succ (g := fun k => spec_l11RowGuess.j1 k (var 10 (fold b) ++ rest) acc a true a 0 ⟨#[]⟩) ?_ (fun k => by
      rw [List.cons_append, guess_head a _ acc (by omega) (by omega)]
      congr 1
      apply decide_eq_true; omega)
    refine Ev.succ (g := fun k => (spec_l11ReadVarint.f k (var 10 (fold b) ++ rest)).bind fun bt253 => if bt253.2 = 0 then some acc else if 0 ≤ bt253.2 then if bt253.2 ≤ ((var 10 (fold b) ++ rest).length : Int) then (some ((var 10 (fold b) ++ rest).drop (bt253.2 : Int).toNat)).bind fun y255 => (spec_l11Unfold.f bt253.1).bind fun t273 => if acc.length < 4398046511104 then spec_l11RowGuess.l0 k y255 (acc ++ [(⟨a, t273, ⟨#[]⟩⟩ : S25)]) else none else none else none) ?_ (fun k => by
      simp only [spec_l11RowGuess.j1]
      rw [if_pos trivial]
      simp only [show ¬ (a = 3) by omega, if_false])
    refine Ev.bind hrd ?_
    refine Ev.eq h (fun k => ?_)
    show (if ((var 10 (fold b)).length : Int) = 0 then _ else _) = _
    rw [if_neg (by omega), if_pos (by omega), if_pos (by rw [List.length_append]; omega)]
    show (some ((var 10 (fold b) ++ rest).drop (((var 10 (fold b)).length : Int)).toNat)).bind _ = _
    rw [Int.toNat_natCast, List.drop_left, Option.bind_some]
    show ((spec_l11Unfold.f ((fold b : Nat) : Int)).bind _) = _
    rw [unfold_fold b hb0 hb1, Option.bind_some, if_pos (by omega)]
  rcases hg with ⟨g0, g1, g2⟩ | ⟨g0, g2⟩ | ⟨g0, g2⟩ | ⟨g0, g1⟩ | ⟨g0, g2, g1⟩ | ⟨g0, g2⟩
  · have g0 : a = 0 := g0
    have g1 : b = 0 := g1
    have e0 := empty_of (s := s) g2
    clear g2 num_case
    subst e0 g0 g1
    refine Ev.succ (Ev.succ h (fun k => ?_)) (fun k => guess_head 0 rest acc (by decide) (by decide) k)
    simp only [spec_l11RowGuess.j1]
    rw [if_neg (by decide), if_neg (by decide), if_pos (by omega)]
  · exact num_case (.inl g0) g2
  · exact num_case (.inr (.inl g0)) g2
  · have g0 : a = 3 := g0
    have g1 : b = 0 := g1
    subst g0; subst g1
    clear num_case
    have e : enc1 ⟨3, 0, s⟩ = 3 :: (var 10 s.size ++ bytesOf s) := by
      unfold enc1
      show (3 : Int) % 256 :: (if (3 : Int) = 1 ∨ (3 : Int) = 2 ∨ (3 : Int) = 5 then _ else if (3 : Int) = 3 then _ else _) = _
      rw [if_neg (by decide), if_pos rfl]; rfl
    have hbl := bytesOf_length s
    rw [e] at hl ⊢
    have hl2 : (var 10 s.size ++ (bytesOf s ++ rest)).length ≤ 1048576 := by
      rw [List.cons_append, List.length_cons, List.append_assoc] at hl; omega
    have hrd := read_told s.size (bytesOf s ++ rest) (by omega) hl2
    have hp : 0 < (var 10 s.size).length := var_pos 9 s.size
    refine Ev.succ (g := fun k => spec_l11RowGuess.j1 k (var 10 s.size ++ (bytesOf s ++ rest)) acc 3 true 3 0 ⟨#[]⟩) ?_ (fun k => by
      rw [List.cons_append, guess_head 3 _ acc (by decide) (by decide), List.append_assoc]
      congr 1)
    refine Ev.succ (g := fun k => (spec_l11ReadVarint.f k (var 10 s.size ++ (bytesOf s ++ rest))).bind fun bt253 => if bt253.2 = 0 then some acc else if 0 ≤ bt253.2 then if bt253.2 ≤ ((var 10 s.size ++ (bytesOf s ++ rest)).length : Int) then (some ((var 10 s.size ++ (bytesOf s ++ rest)).drop (bt253.2 : Int).toNat)).bind fun y255 => if bt253.1 > (IntKind.u64.wrap ((y255.length : Int))) then some acc else if 0 ≤ wrap64 bt253.1 then if wrap64 bt253.1 ≤ (y255.length : Int) then if acc.length < 4398046511104 then spec_l11RowGuess.l0 k (y255.drop (wrap64 bt253.1 : Int).toNat) (acc ++ [(⟨3, 0, strOfNums (y255.take (wrap64 bt253.1 : Int).toNat)⟩ : S25)]) else none else none else none else none else none) ?_ (fun k => by
      simp only [spec_l11RowGuess.j1]
      rw [if_pos trivial]
      simp only [if_true])
    refine Ev.bind hrd ?_
    refine Ev.eq h (fun k => ?_)
    show (if ((var 10 s.size).length : Int) = 0 then _ else _) = _
    rw [if_neg (by omega), if_pos (by omega), if_pos (by rw [List.length_append]; omega)]
    show (some ((var 10 s.size ++ (bytesOf s ++ rest)).drop (((var 10 s.size).length : Int)).toNat)).bind _ = _
    rw [Int.toNat_natCast, List.drop_left, Option.bind_some]
    have hl3 : s.size + rest.length ≤ 1048576 := by rw [List.length_append, List.length_append] at hl2; omega
    have hpk := text_pick (bytesOf s) rest s.size hbl hl3 acc ha k
    rw [str_back] at hpk
    exact hpk
  · have g0 : a = 4 := g0
    have e0 := empty_of (s := s) g2
    have g1 : b = 0 ∨ b = 1 := g1
    clear g2 num_case
    subst e0 g0
    have e : enc1 ⟨4, b, ⟨#[]⟩⟩ ++ rest = 4 :: b :: rest := by
      unfold enc1
      show ((4 : Int) % 256 :: (if (4 : Int) = 1 ∨ (4 : Int) = 2 ∨ (4 : Int) = 5 then _ else if (4 : Int) = 3 then _ else if (4 : Int) = 4 then [b % 256] else _)) ++ rest = _
      rw [if_neg (by decide), if_neg (by decide), if_pos rfl, show b % 256 = b by omega]; rfl
    rw [e]
    refine Ev.succ (Ev.succ h (fun k => ?_)) (fun k => guess_head 4 (b :: rest) acc (by decide) (by decide) k)
    simp only [spec_l11RowGuess.j1]
    rw [if_neg (by decide), if_pos trivial, if_neg (by rw [List.length_cons]; omega), if_pos (by rw [List.length_cons]; omega), if_pos (by rw [List.length_cons]; omega), if_pos (by omega), List.drop_succ_cons, List.drop_zero, show rd (b :: rest) 0 = b from rfl, w64n b (by omega) (by omega)]
  · exact num_case (.inr (.inr g0)) g2
theorem guess_good : ∀ (l acc : List S25), (∀ v, v ∈ l → Good v ∧ Fit v) → acc.length + l.length ≤ 1000000 → (flat l).length ≤ 1048576 → Ev (fun k => spec_l11RowGuess.l0 k (flat l) acc) (acc ++ l)
  | [], acc, _, _, _ => by rw [List.append_nil]; exact guess_end acc
  | v :: l, acc, hg, ha, hl => by
    have hv := hg v (List.mem_cons_self ..)
    have e : flat (v :: l) = enc1 v ++ flat l := by simp [flat]
    rw [e] at hl ⊢
    rw [List.length_cons] at ha
    have h := guess_good l (acc ++ [v]) (fun u hu => hg u (List.mem_cons_of_mem _ hu)) (by rw [List.length_append, List.length_singleton]; omega) (by rw [List.length_append] at hl; omega)
    rw [List.append_assoc] at h
    exact guess_step v hv.1 hv.2 (flat l) acc _ (by omega) hl h
theorem pick_any (y : List Int) (n : Int) (h0 : 0 ≤ n) (hl : y.length ≤ 1048576) (acc : List S25) (ha : acc.length ≤ 1000000000) :
    (∀ k, (if n > IntKind.u64.wrap ((y.length : Int)) then some acc else if 0 ≤ wrap64 n then if wrap64 n ≤ (y.length : Int) then if acc.length < 4398046511104 then spec_l11RowGuess.l0 k (y.drop (wrap64 n : Int).toNat) (acc ++ [(⟨3, 0, strOfNums (y.take (wrap64 n : Int).toNat)⟩ : S25)]) else none else none else none) = some acc) ∨
    (∃ m : Nat, m ≤ y.length ∧ ∀ k, (if n > IntKind.u64.wrap ((y.length : Int)) then some acc else if 0 ≤ wrap64 n then if wrap64 n ≤ (y.length : Int) then if acc.length < 4398046511104 then spec_l11RowGuess.l0 k (y.drop (wrap64 n : Int).toNat) (acc ++ [(⟨3, 0, strOfNums (y.take (wrap64 n : Int).toNat)⟩ : S25)]) else none else none else none) = spec_l11RowGuess.l0 k (y.drop m) (acc ++ [⟨3, 0, strOfNums (y.take m)⟩])) := by
  by_cases c : n > IntKind.u64.wrap ((y.length : Int))
  · exact .inl fun k => if_pos c
  · have hw : wrap64 n = n := by rw [u64w] at c; unfold wrap64; omega
    have hn : n ≤ (y.length : Int) := by rw [u64w] at c; omega
    refine .inr ⟨n.toNat, by omega, fun k => ?_⟩
    rw [if_neg c, hw, if_pos h0, if_pos hn, if_pos (by omega)]
theorem fit_snoc {acc : List S25} (ha : ∀ v, v ∈ acc → Fit v) {v : S25} (hv : Fit v) : ∀ u, u ∈ acc ++ [v] → Fit u := by
  intro u hu
  rcases List.mem_append.1 hu with hu | hu
  · exact ha u hu
  · simp at hu; subst hu; exact hv
theorem guess_any : ∀ (n : Nat) (x : List Int) (acc : List S25), x.length ≤ n → (∀ c, c ∈ x → 0 ≤ c ∧ c < 256) → (∀ v, v ∈ acc → Fit v) → acc.length + x.length ≤ 1000000 →
    ∃ r, Ev (fun k => spec_l11RowGuess.l0 k x acc) r ∧ (∀ v, v ∈ r → Fit v) ∧ r.length ≤ acc.length + x.length := by
  intro n
  induction n with
  | zero =>
    intro x acc hx hb ha hl
    obtain rfl : x = [] := List.eq_nil_of_length_eq_zero (by omega)
    exact ⟨acc, guess_end acc, ha, by omega⟩
  | succ n ih =>
    intro x acc hx hb ha hl
    cases x with
    | nil => exact ⟨acc, guess_end acc, ha, by omega⟩
    | cons c t =>
      have hc := hb c (List.mem_cons_self ..)
      have hbt : ∀ c, c ∈ t → 0 ≤ c ∧ c < 256 := fun c h => hb c (List.mem_cons_of_mem _ h)
      rw [List.length_cons] at hx hl
      have hh := guess_head c t acc hc.1 hc.2
      have hacc : acc.length < 4398046511104 := by omega
      have hr0 := bt_in hbt 0
      by_cases fl : c = 1 ∨ c = 2 ∨ c = 5 ∨ c = 3
      · rw [decide_eq_true fl] at hh
        obtain ⟨u, j, g1, g2, g3, g4, g5⟩ := read_any t hbt (by omega) 10 0 0 1 rfl (by decide) (by decide)
        have g1 : Ev (fun k => spec_l11ReadVarint.f k t) (u, j) := g1
        by_cases hj : j = 0
        · refine ⟨acc, Ev.succ (g := fun k => spec_l11RowGuess.j1 k t acc c true c 0 ⟨#[]⟩) ?_ hh, ha, by omega⟩
          refine Ev.succ (g := fun k => (spec_l11ReadVarint.f k t).bind _) (Ev.bind g1 ?_) (fun k => by simp only [spec_l11RowGuess.j1]; rw [if_pos trivial])
          exact Ev.eq (Ev.now acc) (fun k => if_pos hj)
        · by_cases c3 : c = 3
          · rcases pick_any (t.drop j.toNat) u g2 (by rw [List.length_drop]; omega) acc (by omega) with hp | ⟨m, hm, hp⟩
            · refine ⟨acc, Ev.succ (g := fun k => spec_l11RowGuess.j1 k t acc c true c 0 ⟨#[]⟩) ?_ hh, ha, by omega⟩
              refine Ev.succ (g := fun k => (spec_l11ReadVarint.f k t).bind _) (Ev.bind g1 ?_) (fun k => by simp only [spec_l11RowGuess.j1]; rw [if_pos trivial])
              refine Ev.eq (Ev.now acc) (fun k => ?_)
              rw [if_neg hj, if_pos g4, if_pos g5, Option.bind_some, if_pos c3, c3]
              exact hp k
            · rw [List.length_drop] at hm
              obtain ⟨r, q1, q2, q3⟩ := ih ((t.drop j.toNat).drop m) (acc ++ [⟨3, 0, strOfNums ((t.drop j.toNat).take m)⟩]) (by rw [List.length_drop, List.length_drop]; omega) (fun c h => hbt c (List.mem_of_mem_drop (List.mem_of_mem_drop h)))
                (fit_snoc ha ⟨by show (strOfNums _).size ≤ _; rw [str_size, List.length_take, List.length_drop]; omega, by show (-9223372036854775808 : Int) ≤ 0; decide, by show (0 : Int) ≤ 9223372036854775807; decide⟩)
                (by rw [List.length_append, List.length_singleton, List.length_drop, List.length_drop]; omega)
              rw [List.length_append, List.length_singleton, List.length_drop, List.length_drop] at q3
              refine ⟨r, Ev.succ (g := fun k => spec_l11RowGuess.j1 k t acc c true c 0 ⟨#[]⟩) ?_ hh, q2, by rw [List.length_cons]; omega⟩
              refine Ev.succ (g := fun k => (spec_l11ReadVarint.f k t).bind _) (Ev.bind g1 ?_) (fun k => by simp only [spec_l11RowGuess.j1]; rw [if_pos trivial])
              refine Ev.eq q1 (fun k => ?_)
              rw [if_neg hj, if_pos g4, if_pos g5, Option.bind_some, if_pos c3, c3]
              exact hp k
          · obtain ⟨a, e, a0, a1⟩ := unfold_any u
            obtain ⟨r, q1, q2, q3⟩ := ih (t.drop j.toNat) (acc ++ [⟨c, a, ⟨#[]⟩⟩]) (by rw [List.length_drop]; omega) (fun c h => hbt c (List.mem_of_mem_drop h)) (fit_snoc ha ⟨Nat.zero_le _, a0, a1⟩) (by rw [List.length_append, List.length_singleton, List.length_drop]; omega)
            rw [List.length_append, List.length_singleton, List.length_drop] at q3
            refine ⟨r, Ev.succ (g := fun k => spec_l11RowGuess.j1 k t acc c true c 0 ⟨#[]⟩) ?_ hh, q2, by rw [List.length_cons]; omega⟩
            refine Ev.succ (g := fun k => (spec_l11ReadVarint.f k t).bind _) (Ev.bind g1 ?_) (fun k => by simp only [spec_l11RowGuess.j1]; rw [if_pos trivial])
            refine Ev.eq q1 (fun k => ?_)
            rw [if_neg hj, if_pos g4, if_pos g5, Option.bind_some, if_neg c3, e, Option.bind_some, if_pos hacc]
      · rw [decide_eq_false fl] at hh
        by_cases c4 : c = 4
        · by_cases ht : (t.length : Int) = 0
          · refine ⟨acc, Ev.succ (g := fun k => spec_l11RowGuess.j1 k t acc c false c 0 ⟨#[]⟩) (Ev.succ (Ev.now acc) (fun k => ?_)) hh, ha, by omega⟩
            simp only [spec_l11RowGuess.j1]
            rw [if_neg (by decide), if_pos c4, if_pos ht]
          · obtain ⟨r, q1, q2, q3⟩ := ih (t.drop 1) (acc ++ [⟨c, wrap64 (rd t 0), ⟨#[]⟩⟩]) (by rw [List.length_drop]; omega) (fun c h => hbt c (List.mem_of_mem_drop h))
              (fit_snoc ha ⟨Nat.zero_le _, by show -9223372036854775808 ≤ wrap64 _; unfold wrap64; omega, by show wrap64 _ ≤ 9223372036854775807; unfold wrap64; omega⟩) (by rw [List.length_append, List.length_singleton, List.length_drop]; omega)
            rw [List.length_append, List.length_singleton, List.length_drop] at q3
            refine ⟨r, Ev.succ (g := fun k => spec_l11RowGuess.j1 k t acc c false c 0 ⟨#[]⟩) (Ev.succ q1 (fun k => ?_)) hh, q2, by rw [List.length_cons]; omega⟩
            simp only [spec_l11RowGuess.j1]
            rw [if_neg (by decide), if_pos c4, if_neg ht, if_pos (by omega), if_pos (by omega), if_pos hacc]
        · obtain ⟨r, q1, q2, q3⟩ := ih t (acc ++ [⟨c, 0, ⟨#[]⟩⟩]) (by omega) hbt (fit_snoc ha ⟨Nat.zero_le _, by show (-9223372036854775808 : Int) ≤ 0; decide, by show (0 : Int) ≤ 9223372036854775807; decide⟩) (by rw [List.length_append, List.length_singleton]; omega)
          rw [List.length_append, List.length_singleton] at q3
          refine ⟨r, Ev.succ (g := fun k => spec_l11RowGuess.j1 k t acc c false c 0 ⟨#[]⟩) (Ev.succ q1 (fun k => ?_)) hh, q2, by rw [List.length_cons]; omega⟩
          simp only [spec_l11RowGuess.j1]
          rw [if_neg (by decide), if_neg c4, if_pos hacc]

/-! ### bytes that are alike -/
def Bytes (l : List Int) : Prop := ∀ c, c ∈ l → 0 ≤ c ∧ c < 256
theorem str_inj : ∀ (a b : List Int), Bytes a → Bytes b → (strOfNums a).toList = (strOfNums b).toList → a = b := by
  intro a b ha hb h
  unfold strOfNums at h
  rw [ByteArray.toList_mk, ByteArray.toList_mk] at h
  revert b
  induction a with
  | nil => intro b hb h; cases b with
    | nil => rfl
    | cons c t => simp at h
  | cons x t ih =>
    intro b hb h
    cases b with
    | nil => simp at h
    | cons y u =>
      rw [List.map_cons, List.map_cons] at h
      injection h with h1 h2
      have e := ih (fun c h => ha c (List.mem_cons_of_mem _ h)) u (fun c h => hb c (List.mem_cons_of_mem _ h)) h2
      have hx := ha x (List.mem_cons_self ..)
      have hy := hb y (List.mem_cons_self ..)
      have h3 := congrArg UInt8.toNat h1
      rw [UInt8.toNat_ofNat', UInt8.toNat_ofNat'] at h3
      rw [e]
      congr 1
      omega
theorem var_bytes : ∀ (f n : Nat), Bytes (var f n)
  | 0, n => by intro c hc; simp [var] at hc
  | f + 1, n => by
    intro c hc
    unfold var at hc
    split at hc
    · rcases List.mem_cons.1 hc with hc | hc
      · rw [hc]; omega
      · exact var_bytes f _ c hc
    · simp at hc; rw [hc]; omega
theorem bytesOf_bytes (s : ByteArray) : Bytes (bytesOf s) := by
  intro c hc
  unfold bytesOf at hc
  obtain ⟨b, _, rfl⟩ := List.mem_map.1 hc
  have := b.toNat_lt
  omega
theorem enc_bytes (v : S25) : Bytes (enc1 v) := by
  intro c hc
  unfold enc1 at hc
  rcases List.mem_cons.1 hc with hc | hc
  · rw [hc]; omega
  · split at hc
    · exact var_bytes _ _ c hc
    · split at hc
      · rcases List.mem_append.1 hc with hc | hc
        · exact var_bytes _ _ c hc
        · exact bytesOf_bytes _ c hc
      · split at hc
        · simp at hc; rw [hc]; omega
        · cases hc
theorem row_bytes (l : List S25) (hl : l.length ≤ 16) : Bytes ((l.length : Int) :: flat l) := by
  intro c hc
  rcases List.mem_cons.1 hc with hc | hc
  · rw [hc]; omega
  · unfold flat at hc
    obtain ⟨v, _, hv⟩ := List.mem_flatMap.1 hc
    exact enc_bytes v c hv
theorem Ev.unique {α : Type} {f : Nat → Option α} {r r' : α} (h : Ev f r) (h' : Ev f r') : r = r' := by
  obtain ⟨k, hk⟩ := h
  obtain ⟨l, hl⟩ := h'
  have e := hk (k + l) (by omega)
  rw [hl (k + l) (by omega)] at e
  exact (Option.some.inj e).symm

/-! ### the answers -/
def Fits (l : List S25) : Prop := ∀ v, v ∈ l → Fit v
theorem both_fit (l : List S25) (hl : l.length ≤ 1048576) (hf : Fits l) : ∃ r, Ev (fun k => spec_RowBytes.f k l) r ∧ Ev (fun k => impl_RowBytes.f k l) r ∧ (r = ([], 1) ∨ (r = told ((l.length : Int) :: flat l) ∧ l.length ≤ 16 ∧ ∀ v, v ∈ l → Good v)) := by
  obtain ⟨r, h1, h2, h3⟩ := both_told l hl (fun i hi => (hf _ (at_mem l i hi)).1) (fun i hi => (hf _ (at_mem l i hi)).2)
  refine ⟨r, h1, h2, h3.imp id fun ⟨e, h16, hg⟩ => ⟨e, h16, fun v hv => ?_⟩⟩
  obtain ⟨i, hi, e⟩ := mem_at l v hv
  rw [e]; exact hg i hi
/-- A row whose bytes these are. -/
def Yes (bs : List Int) (l : List S25) : Prop := Fits l ∧ l.length ≤ 1048576 ∧ Ev (fun k => impl_RowBytes.f k l) (bs, 0)
theorem yes_row {bs : List Int} {l : List S25} (h : Yes bs l) : bs = (l.length : Int) :: flat l ∧ l.length ≤ 16 ∧ (∀ v, v ∈ l → Good v) ∧ bs.length ≤ 4000 ∧ Ev (fun k => spec_RowBytes.f k l) (bs, 0) := by
  obtain ⟨hf, hl, he⟩ := h
  obtain ⟨r, h1, h2, h3⟩ := both_fit l hl hf
  obtain rfl := Ev.unique he h2
  rcases h3 with h3 | ⟨h3, h16, hg⟩
  · have := congrArg Prod.snd h3
    exact absurd this (show ¬ ((0 : Int) = 1) by decide)
  · unfold told at h3
    split at h3
    · have := congrArg Prod.snd h3
      exact absurd this (show ¬ ((0 : Int) = 5) by decide)
    · rename_i hc
      have e : bs = (l.length : Int) :: flat l := congrArg Prod.fst h3
      exact ⟨e, h16, hg, by rw [e]; omega, h1⟩
/-- Bytes that a row told and that are these: such a row there is. -/
theorem not_yes {bs : List Int} (hb : Bytes bs) (hno : ¬ ∃ l, Yes bs l) (l : List S25) (hl : l.length ≤ 1048576) (hf : Fits l) : ∃ r, Ev (fun k => spec_RowBytes.f k l) r ∧ Ev (fun k => impl_RowBytes.f k l) r ∧ (r.2 = 0 → ((strOfNums bs).toList == (strOfNums r.1).toList) = false ∧ ((strOfNums r.1).toList == (strOfNums bs).toList) = false) := by
  obtain ⟨r, h1, h2, h3⟩ := both_fit l hl hf
  refine ⟨r, h1, h2, fun hz => ?_⟩
  have hne : ¬ (strOfNums bs).toList = (strOfNums r.1).toList := by
    intro e
    rcases h3 with h3 | ⟨h3, h16, hg⟩
    · rw [h3] at hz; exact absurd hz (show ¬ ((1 : Int) = 0) by decide)
    · unfold told at h3
      split at h3
      · rw [h3] at hz; exact absurd hz (show ¬ ((5 : Int) = 0) by decide)
      · have hbr : Bytes r.1 := by rw [h3]; exact row_bytes l h16
        have e2 := str_inj bs r.1 hb hbr e
        refine hno ⟨l, hf, hl, ?_⟩
        have e3 : (bs, (0 : Int)) = r := by rw [e2, ← hz]
        rw [e3]; exact h2
  exact ⟨beq_eq_false_iff_ne.mpr hne, beq_eq_false_iff_ne.mpr (fun e => hne e.symm)⟩
theorem rows_told (bs : List Int) (hb : Bytes bs) (hl : bs.length ≤ 1048576) : ∃ r : List S25 × Int, Ev (fun k => spec_RowValues.f k bs) r ∧ Ev (fun k => impl_RowValues.f k bs) r ∧ r.1.length ≤ 1048576 := by
  have gf : ∀ r, Ev (fun k => spec_l11RowGuess.l0 k (bs.drop 1) []) r → (bs.length : Int) ≠ 0 → Ev (fun k => spec_l11RowGuess.f k bs) r := fun r h hz => Ev.eq h (fun k => by
    show (some ([] : List S25)).bind _ = _
    rw [Option.bind_some, if_neg hz, if_pos (by omega)])
  by_cases hy : ∃ l, Yes bs l
  · obtain ⟨l, hy⟩ := hy
    obtain ⟨e, h16, hg, h4, hs⟩ := yes_row hy
    have hgf : ∀ v, v ∈ l → Good v ∧ Fit v := fun v hv => ⟨hg v hv, hy.1 v hv⟩
    have hlen : bs.length = (flat l).length + 1 := by rw [e, List.length_cons]
    have hd : bs.drop 1 = flat l := by rw [e]; rfl
    have hr : rd bs 0 = (l.length : Int) := by rw [e]; rfl
    refine ⟨(l, 0), ?_, ?_, by show l.length ≤ 1048576; omega⟩
    · have hgu := gf l (by rw [hd]; exact guess_good l [] hgf (by simp; omega) (by omega)) (by omega)
      refine Ev.eq (Ev.bind hgu (Ev.bind hs ?_)) (fun k => by
        show (if (bs.length : Int) > 4000 then _ else _) = _
        rw [if_neg (by omega)])
      refine Ev.eq (Ev.now _) (fun k => ?_)
      show (if (0 : Int) = 0 then (spec_l11Same.f bs bs).bind _ else _) = _
      rw [if_pos rfl]
      show (some ((strOfNums bs).toList == (strOfNums bs).toList)).bind _ = _
      rw [beq_self_eq_true]; rfl
    · have hgo := go_good bs hl l 1 [] [] (by decide) (by omega) hgf (by rw [show (1 : Int).toNat = 1 from rfl, hd, List.append_nil])
      refine Ev.eq (Ev.bind (f := fun k => impl_RowBytes.f k l) (g := fun _ r => if r.2 = 0 then (bytes_Equal.f bs r.1).bind fun e => if e = true then some (l, 0) else some ([], 28) else some ([], 28)) hy.2.2 ?_) (fun k => by
        unfold impl_RowValues.f
        rw [if_neg (by omega), if_neg (by omega), hr, if_neg (by omega), if_pos (by omega), Int.toNat_natCast, hgo]
        rfl)
      refine Ev.eq (Ev.now _) (fun k => ?_)
      show (if (0 : Int) = 0 then (bytes_Equal.f bs bs).bind _ else _) = _
      rw [if_pos rfl]
      show (some ((strOfNums bs).toList == (strOfNums bs).toList)).bind _ = _
      rw [beq_self_eq_true]; rfl
  · refine ⟨([], 28), ?_, ?_, by simp⟩
    · by_cases c : (bs.length : Int) > 4000
      · exact Ev.eq (Ev.now _) (fun k => if_pos c)
      · have hgu : ∃ r, Ev (fun k => spec_l11RowGuess.f k bs) r ∧ Fits r ∧ r.length ≤ 1048576 := by
          by_cases hz : (bs.length : Int) = 0
          · refine ⟨[], Ev.eq (Ev.now _) (fun k => ?_), (fun v hv => by cases hv), Nat.zero_le _⟩
            show (some ([] : List S25)).bind _ = _
            rw [Option.bind_some, if_pos hz]
          · obtain ⟨r, q1, q2, q3⟩ := guess_any bs.length (bs.drop 1) [] (by rw [List.length_drop]; omega) (fun c h => hb c (List.mem_of_mem_drop h)) (fun v hv => by cases hv) (by rw [List.length_drop]; simp; omega)
            rw [List.length_drop] at q3
            exact ⟨r, gf r q1 hz, q2, by simp at q3; omega⟩
        obtain ⟨l, q1, q2, q3⟩ := hgu
        obtain ⟨r, h1, h2, h3⟩ := not_yes hb hy l q3 q2
        refine Ev.eq (Ev.bind q1 (Ev.bind h1 ?_)) (fun k => by
          show (if (bs.length : Int) > 4000 then _ else _) = _
          rw [if_neg c])
        refine Ev.eq (Ev.now _) (fun k => ?_)
        by_cases hz : r.2 = 0
        · rw [if_pos hz]
          show (some ((strOfNums r.1).toList == (strOfNums bs).toList)).bind _ = _
          rw [(h3 hz).2]; rfl
        · rw [if_neg hz]
    · by_cases c0 : (bs.length : Int) = 0
      · exact Ev.eq (Ev.now _) (fun k => by unfold impl_RowValues.f; rw [if_pos c0])
      by_cases c1 : (bs.length : Int) > 4000
      · exact Ev.eq (Ev.now _) (fun k => by unfold impl_RowValues.f; rw [if_neg c0, if_pos c1])
      have hr := bt_in hb 0
      by_cases c2 : rd bs 0 > 16
      · exact Ev.eq (Ev.now _) (fun k => by unfold impl_RowValues.f; rw [if_neg c0, if_neg c1, if_pos c2, if_pos (by omega)])
      have e1 : ∀ k, impl_RowValues.f k bs = fin k bs (rvGo bs (rd bs 0).toNat 1 []) := fun k => by unfold impl_RowValues.f; rw [if_neg c0, if_neg c1, if_neg c2, if_pos hr.1]
      cases ho : rvGo bs (rd bs 0).toNat 1 [] with
      | none => exact Ev.eq (Ev.now _) (fun k => by rw [e1, ho]; rfl)
      | some out =>
        obtain ⟨hf, hlo⟩ := go_fit bs hl _ _ _ _ (fun v hv => by cases hv) ho
        have hlo2 : out.length ≤ 1048576 := by rw [hlo]; simp; omega
        obtain ⟨r, h1, h2, h3⟩ := not_yes hb hy out hlo2 hf
        refine Ev.eq (Ev.bind (f := fun k => impl_RowBytes.f k out) (g := fun _ r => if r.2 = 0 then (bytes_Equal.f bs r.1).bind fun e => if e = true then some (out, 0) else some ([], 28) else some ([], 28)) h2 ?_) (fun k => by rw [e1, ho]; rfl)
        refine Ev.eq (Ev.now _) (fun k => ?_)
        by_cases hz : r.2 = 0
        · rw [if_pos hz]
          show (some ((strOfNums bs).toList == (strOfNums r.1).toList)).bind _ = _
          rw [(h3 hz).1]; rfl
        · rw [if_neg hz]

/-! ### what is copied, marked and held -/
theorem to_loop (l : List Int) (hl : l.length ≤ 1048576) : ∀ (n i : Nat) (x : List Int), i + n = l.length → x.length = l.length → x.take i = l.take i → laws_toByteS.l0 (n + 1) l x (i : Int) = some l := by
  intro n
  induction n with
  | zero =>
    intro i x hi hx ht
    simp only [laws_toByteS.l0]
    rw [if_neg (by omega)]
    obtain rfl : i = l.length := by omega
    rw [List.take_of_length_le (by omega), List.take_of_length_le (Nat.le_refl _)] at ht
    rw [ht]
  | succ n ih =>
    intro i x hi hx ht
    obtain ⟨q, hq⟩ : ∃ q, q = n + 1 := ⟨_, rfl⟩
    rw [← hq] at ih ⊢
    simp only [laws_toByteS.l0]
    rw [if_pos (by omega), if_pos (by omega), if_pos (by omega), rd_getD, up1 i (by omega), Int.toNat_natCast]
    refine ih (i + 1) _ (by omega) (by rw [List.length_set]; exact hx) ?_
    have e1 : l.getD i 0 = l[i] := by simp [List.getD, show i < l.length by omega]
    rw [List.take_succ_eq_append_getElem (show i < l.length by omega), ← ht, List.take_succ_eq_append_getElem (by rw [List.length_set]; omega)]
    congr 1
    · rw [List.take_set_of_le (Nat.le_refl _)]
    · rw [e1]; simp
theorem to_told (l : List Int) (hl : l.length ≤ 1048576) : Ev (fun k => laws_toByteS.f k l) l := by
  refine Ev.of (laws_toByteS.mono l) ⟨l.length + 1, ?_⟩
  unfold laws_toByteS.f
  rw [if_pos (by omega), Int.toNat_natCast, if_pos (by omega)]
  exact to_loop l hl l.length 0 _ (by omega) (by simp) (by simp)
theorem mark_loop (len : Nat) (hz : len ≤ 1048576) : ∀ (n i : Nat) (c : Nat) (z : List Int), z.length = len → i + n = len → c = i + 1 → ∃ y, laws_markByteS.l0 (n + 1) z (c : Int) (i : Int) = some (((len + 1 : Nat) : Int), y) := by
  intro n
  induction n with
  | zero =>
    intro i c z hl hi hc
    obtain rfl : i = len := by omega
    refine ⟨z, ?_⟩
    simp only [laws_markByteS.l0]
    rw [if_neg (by omega), hc]
  | succ n ih =>
    intro i c z hl hi hc
    obtain ⟨q, hqq⟩ : ∃ q, q = n + 1 := ⟨_, rfl⟩
    rw [← hqq] at ih ⊢
    obtain ⟨y, h1⟩ := ih (i + 1) (c + 1) (z.set i ((c : Int) % 256)) (by simp [hl]) (by omega) (by omega)
    refine ⟨y, ?_⟩
    simp only [laws_markByteS.l0]
    rw [if_pos (by omega), if_pos (by omega), Int.toNat_natCast, up1 i (by omega), up1 c (by omega)]
    exact h1
theorem mark_told (z : List Int) (hz : z.length ≤ 1048576) : ∃ y, Ev (fun k => laws_markByteS.f k z 1) (((z.length + 1 : Nat) : Int), y) := by
  obtain ⟨y, h1⟩ := mark_loop z.length hz z.length 0 1 z rfl (by omega) rfl
  exact ⟨y, Ev.of (laws_markByteS.mono z 1) ⟨_, h1⟩⟩
/-- A value as it was marked. -/
def Marked (v : S25) (q : Nat) : Prop := v.f0 = ((3 * q + 1 : Nat) : Int) ∧ v.f1 = ((3 * q + 2 : Nat) : Int) ∧ Ev (fun k => laws_markText.f k ((3 * q + 3 : Nat) : Int)) v.f2
theorem markv_loop (len : Nat) (hz : len ≤ 1048576) : ∀ (n i : Nat) (c : Nat) (z : List S25), z.length = len → i + n = len → c = 3 * i + 1 → (∀ q, q < i → Marked (z.getD q z25) q) →
    ∃ y, Ev (fun k => laws_markValueS.l0 k z (c : Int) (i : Int)) (((3 * len + 1 : Nat) : Int), y) ∧ y.length = len ∧ ∀ q, q < len → Marked (y.getD q z25) q := by
  intro n
  induction n with
  | zero =>
    intro i c z hl hi hc hq
    obtain rfl : i = len := by omega
    refine ⟨z, ⟨1, fun m hm => ?_⟩, hl, hq⟩
    obtain ⟨m, rfl⟩ : ∃ z, m = z + 1 := ⟨m - 1, by omega⟩
    simp only [laws_markValueS.l0]
    rw [if_neg (by omega), hc]
  | succ n ih =>
    intro i c z hl hi hc hq
    obtain ⟨t, ht⟩ := text_told (c + 2) (by omega)
    obtain ⟨y1, hy1⟩ : ∃ y1, y1 = z.set i (⟨(c : Int), (rd_T25 z (i : Int)).f1, (rd_T25 z (i : Int)).f2⟩ : S25) := ⟨_, rfl⟩
    obtain ⟨y2, hy2⟩ : ∃ y2, y2 = y1.set i (⟨(rd_T25 y1 (i : Int)).f0, ((c + 1 : Nat) : Int), (rd_T25 y1 (i : Int)).f2⟩ : S25) := ⟨_, rfl⟩
    have r1 : (rd_T25 y1 (i : Int)).f0 = (c : Int) := by rw [rd25, hy1]; simp [List.getD, hl, show i < len by omega]
    have r2 : (rd_T25 y2 (i : Int)).f0 = (c : Int) ∧ (rd_T25 y2 (i : Int)).f1 = ((c + 1 : Nat) : Int) := by
      have hl1 : y1.length = len := by rw [hy1, List.length_set, hl]
      rw [rd25, hy2, r1]; simp [List.getD, hl1, show i < len by omega]
    obtain ⟨y, hy, hyl, hyq⟩ := ih (i + 1) (c + 3) (y2.set i (⟨(rd_T25 y2 (i : Int)).f0, (rd_T25 y2 (i : Int)).f1, t⟩ : S25)) (by rw [List.length_set, hy2, List.length_set, hy1, List.length_set, hl]) (by omega) (by omega) (fun q hlt => by
      rw [r2.1, r2.2]
      have hl2 : y2.length = len := by rw [hy2, List.length_set, hy1, List.length_set, hl]
      by_cases e : q = i
      · subst e
        have e1 : (y2.set q (⟨(c : Int), ((c + 1 : Nat) : Int), t⟩ : S25)).getD q z25 = ⟨(c : Int), ((c + 1 : Nat) : Int), t⟩ := by
          simp [List.getD, hl2, show q < len by omega]
        rw [e1]
        exact ⟨by show (c : Int) = _; omega, by show ((c + 1 : Nat) : Int) = _; omega, by rw [show 3 * q + 3 = c + 2 by omega]; exact ht⟩
      · have e1 : (y2.set i (⟨(c : Int), ((c + 1 : Nat) : Int), t⟩ : S25)).getD q z25 = z.getD q z25 := by
          rw [hy2, hy1]
          simp [List.getD, Ne.symm e]
        rw [e1]
        exact hq q (by omega))
    refine ⟨y, Ev.succ (Ev.bind (g := fun k t => laws_markValueS.l0 k (y2.set i (⟨(rd_T25 y2 (i : Int)).f0, (rd_T25 y2 (i : Int)).f1, t⟩ : S25)) ((c + 3 : Nat) : Int) ((i + 1 : Nat) : Int)) ht hy) (fun k => ?_), hyl, hyq⟩
    simp only [laws_markValueS.l0]
    rw [if_pos (by omega), if_pos (by omega), Option.bind_some, Option.bind_some, Int.toNat_natCast, up1 c (by omega), up1 (c + 1) (by omega), up1 (c + 1 + 1) (by omega), up1 i (by omega), ← hy1, ← hy2]
theorem heldv_loop (z : List S25) (hz : z.length ≤ 1048576) (hq : ∀ q, q < z.length → Marked (z.getD q z25) q) : ∀ (n i : Nat) (c : Nat), i + n = z.length → c = 3 * i + 1 →
    Ev (fun k => laws_heldValueS.l0 k z (c : Int) (i : Int)) ((3 * z.length + 1 : Nat) : Int) := by
  intro n
  induction n with
  | zero =>
    intro i c hi hc
    refine Ev.succ (Ev.now _) (fun k => ?_)
    simp only [laws_heldValueS.l0]
    rw [if_neg (by omega), hc, show i = z.length by omega]
  | succ n ih =>
    intro i c hi hc
    have h := ih (i + 1) (c + 3) (by omega) (by omega)
    obtain ⟨h0, h1, h2⟩ := hq i (by omega)
    rw [show 3 * i + 3 = c + 2 by omega] at h2
    refine Ev.succ (Ev.bind (g := fun k t => if (z.getD i z25).f2.toList = t.toList then laws_heldValueS.l0 k z ((c + 3 : Nat) : Int) ((i + 1 : Nat) : Int) else some (-1)) h2 (Ev.eq h (fun k => if_pos rfl))) (fun k => ?_)
    simp only [laws_heldValueS.l0]
    rw [if_pos (by omega), if_pos (by omega), rd25, if_pos (by rw [h0]; omega), up1 c (by omega), if_pos (by rw [h1]; omega), up1 (c + 1) (by omega), up1 (c + 1 + 1) (by omega), up1 i (by omega)]
theorem markv_told (z : List S25) (hz : z.length ≤ 1048576) : ∃ y, Ev (fun k => laws_markValueS.f k z 1) (((3 * z.length + 1 : Nat) : Int), y) ∧ Ev (fun k => laws_heldValueS.f k y 1) ((3 * z.length + 1 : Nat) : Int) := by
  obtain ⟨y, h1, h2, h3⟩ := markv_loop z.length hz z.length 0 1 z rfl (by omega) rfl (fun q h => by omega)
  have h := heldv_loop y (by omega) (by rw [h2]; exact h3) y.length 0 1 (by omega) rfl
  rw [h2] at h
  exact ⟨y, h1, h⟩

theorem FnExactRowValues (bs : List Int) (hb : Bytes bs) : ∃ k, laws_FnExactRowValues.f k bs = some true := by
  suffices h : Ev (fun k => laws_FnExactRowValues.f k bs) true by
    obtain ⟨k, hk⟩ := h
    exact ⟨k, hk k (Nat.le_refl _)⟩
  by_cases c : (bs.length : Int) > 1048576
  · exact Ev.eq (Ev.now true) (fun k => if_pos c)
  refine Ev.eq ?_ (fun k => if_neg c)
  have hl : bs.length ≤ 1048576 := by omega
  have ht := to_told bs hl
  obtain ⟨⟨z, e⟩, hsp, him, hz⟩ := rows_told bs hb hl
  have hz' : z.length ≤ 1048576 := hz
  have hq := eqb_told bs (by omega)
  have hv := eqv_told z (by omega)
  obtain ⟨y, hm, hh⟩ := markv_told z hz'
  obtain ⟨yb, hmb⟩ := mark_told bs hl
  have he : (e != e) = false := by simp
  have j2 : Ev (fun k => laws_FnExactRowValues.j2 k y ((3 * z.length + 1 : Nat) : Int) false) true := by
    refine Ev.succ (g := fun k => (laws_heldValueS.f k y 1).bind fun t => if t < 0 then some false else if t = ((3 * z.length + 1 : Nat) : Int) then some true else some false) (Ev.bind (g := fun k t => if t < 0 then some false else if t = ((3 * z.length + 1 : Nat) : Int) then some true else some false) hh ?_) (fun k => rfl)
    exact Ev.eq (Ev.now true) (fun k => by
      show (if ((3 * z.length + 1 : Nat) : Int) < 0 then _ else _) = _
      rw [if_neg (by omega), if_pos rfl])
  have j1 : Ev (fun k => laws_FnExactRowValues.j1 k bs z e z false) true := by
    refine Ev.succ (g := _) (Ev.bind hm (Ev.bind hh ?_)) (fun k => rfl)
    refine Ev.eq (g := _) ?_ (fun k => if_neg (by omega))
    refine Ev.eq (g := _) ?_ (fun k => if_pos rfl)
    refine Ev.bind ht (Ev.bind him (Ev.bind hv ?_))
    refine Ev.eq (g := _) ?_ (fun k => if_pos rfl)
    show Ev (fun k => laws_FnExactRowValues.j2 k y ((3 * z.length + 1 : Nat) : Int) (e != e)) true
    rw [he]
    exact j2
  have j0 : Ev (fun k => laws_FnExactRowValues.j0 k bs z e bs z e false) true := by
    refine Ev.succ (g := _) (Ev.bind ht (Ev.bind hq ?_)) (fun k => rfl)
    refine Ev.eq (g := _) ?_ (fun k => if_pos rfl)
    refine Ev.bind hmb ?_
    refine Ev.eq (g := _) ?_ (fun k => if_neg (by omega))
    refine Ev.bind hv ?_
    refine Ev.eq (g := _) ?_ (fun k => if_pos rfl)
    show Ev (fun k => laws_FnExactRowValues.j1 k bs z e z (e != e)) true
    rw [he]
    exact j1
  refine Ev.bind ht (Ev.bind hsp (Ev.bind ht (Ev.bind him (Ev.bind hv ?_))))
  refine Ev.eq (g := _) ?_ (fun k => if_pos rfl)
  show Ev (fun k => laws_FnExactRowValues.j0 k bs z e bs z e (e != e)) true
  rw [he]
  exact j0

end Go.Proofs.YtaicfmmgmblmiaaDoor.PureFnExactRowValues
