/- Proved: for every row of values (whole numbers as Go holds them, texts that fit into memory) the program's RowBytes and the reference's RowBytes answer alike, and the law's checks of what is kept and written hold. No other conditions. -/
import Derived.Test.YtaicfmmgmblmiaaDoorQFnExactRowBytesx6
import Derived.Test.YtaicfmmgmblmiaaDoorCharsRB
import Derived.Lib.Zigzag
import Derived.Laws.BitsAllLaws
namespace Go.Proofs.YtaicfmmgmblmiaaDoor.PureFnExactRowBytes
open Go.RowKit Go.Lib Go.Proofs.YtaicfmmgmblmiaaDoor.QFnExactRowBytes Go.Proofs.YtaicfmmgmblmiaaDoorW.PrintWords Go.Proofs.YtaicfmmgmblmiaaDoorW.PrintLast Go.Proofs.YtaicfmmgmblmiaaDoorExt

theorem mono_le {α : Type} {f : Nat → Option α} (h : ∀ k, LeO (f k) (f (k + 1))) {k m : Nat} (hk : k ≤ m) {r : α} (e : f k = some r) : f m = some r := by
  obtain ⟨d, rfl⟩ : ∃ d, m = k + d := ⟨m - k, by omega⟩
  clear hk
  induction d with
  | zero => exact e
  | succ d ih => exact h _ _ ih
/-- With enough rounds, it is told for good. -/
def Ev {α : Type} (f : Nat → Option α) (r : α) : Prop := ∃ k, ∀ m, k ≤ m → f m = some r
theorem Ev.of {α : Type} {f : Nat → Option α} {r : α} (hm : ∀ k, LeO (f k) (f (k + 1))) (h : ∃ k, f k = some r) : Ev f r := by
  obtain ⟨k, hk⟩ := h
  exact ⟨k, fun m hle => mono_le hm hle hk⟩
theorem Ev.succ {α : Type} {f g : Nat → Option α} {r : α} (h : Ev g r) (e : ∀ k, f (k + 1) = g k) : Ev f r := by
  obtain ⟨k, hk⟩ := h
  refine ⟨k + 1, fun m hm => ?_⟩
  obtain ⟨m, rfl⟩ : ∃ z, m = z + 1 := ⟨m - 1, by omega⟩
  rw [e]; exact hk m (by omega)
theorem Ev.bind {α β : Type} {f : Nat → Option α} {r : α} (h : Ev f r) {g : Nat → α → Option β} {s : β} (hg : Ev (fun k => g k r) s) : Ev (fun k => (f k).bind (g k)) s := by
  obtain ⟨k, hk⟩ := h
  obtain ⟨l, hl⟩ := hg
  refine ⟨k + l, fun m hm => ?_⟩
  show (f m).bind (g m) = some s
  rw [hk m (by omega)]
  exact hl m (by omega)
theorem Ev.now {α : Type} (r : α) : Ev (fun _ => some r) r := ⟨0, fun _ _ => rfl⟩
theorem Ev.eq {α : Type} {f g : Nat → Option α} {r : α} (h : Ev g r) (e : ∀ k, f k = g k) : Ev f r := by
  obtain ⟨k, hk⟩ := h
  exact ⟨k, fun m hm => by rw [e]; exact hk m hm⟩
theorem rd_getD (l : List Int) (i : Nat) : rd l (i : Int) = l.getD i 0 := by unfold rd; rw [Int.toNat_natCast]
theorem rd25 (l : List S25) (i : Nat) : rd_T25 l (i : Int) = l.getD i z25 := by unfold rd_T25; rw [Int.toNat_natCast]
theorem rd23 (l : List S23) (i : Nat) : rd_T23 l (i : Int) = l.getD i z23 := by unfold rd_T23; rw [Int.toNat_natCast]
theorem up1 (i : Nat) (h : i ≤ 281474976710656) : wrap64 ((i : Int) + 1) = ((i + 1 : Nat) : Int) := by unfold wrap64; omega

theorem dup {α : Type} {e : Option α} (h : e.isSome = true) : ∃ v, e = some v ∧ e = some v := by
  cases e with
  | none => cases h
  | some v => exact ⟨v, rfl, rfl⟩

theorem value_both (a b : Int) (s : ByteArray) (hs : s.size ≤ 1048576) : ∃ k v, spec_ValueOK.f k a b s = some v ∧ impl_ValueOK.f a b s = some v := by
  obtain ⟨k, hk⟩ := chars_told s hs
  refine ⟨k, ?_⟩
  unfold spec_ValueOK.f impl_ValueOK.f
  by_cases h0 : a = 0
  · rw [if_pos h0, if_pos h0]
    by_cases hb : b = 0
    · rw [if_pos hb]; exact ⟨_, rfl, rfl⟩
    · rw [if_neg hb]; exact ⟨_, rfl, rfl⟩
  rw [if_neg h0, if_neg h0]
  by_cases h1 : a = 1
  · rw [if_pos h1, if_pos h1]; exact ⟨_, rfl, rfl⟩
  rw [if_neg h1, if_neg h1]
  by_cases h2 : a = 2
  · rw [if_pos h2, if_pos h2]
    by_cases hb : s.toList = []
    · by_cases hc : b ≥ -999999999999999999
      · simp only [if_pos hb, if_pos hc]; exact ⟨_, rfl, rfl⟩
      · simp only [if_pos hb, if_neg hc]; exact ⟨_, rfl, rfl⟩
    · simp only [if_neg hb]; exact ⟨_, rfl, rfl⟩
  rw [if_neg h2, if_neg h2]
  by_cases h3 : a = 3
  · rw [if_pos h3, if_pos h3]
    by_cases hb : b = 0
    · have e1 : utf8_ValidString.f s = some (validD s.data.toList) := by unfold utf8_ValidString.f; rw [if_pos (by omega)]
      have e2 : utf8_RuneCountInString.f s = some (runeCount s : Int) := by unfold utf8_RuneCountInString.f; rw [if_pos (by omega)]
      rw [if_pos hb, if_pos hb, hk, e1, e2]
      simp only [Option.bind_some]
      have hr := runeCount_runes s
      by_cases hz : (s.size : Int) > 1020
      · rw [if_pos hz]
        have h4 := runes_bytes _ s.data.toList (Nat.le_refl _)
        have hl : s.data.toList.length = s.size := by simp
        cases hv : validD s.data.toList
        · exact ⟨_, rfl, rfl⟩
        · refine ⟨false, rfl, ?_⟩
          rw [if_pos rfl, decide_eq_false (by omega)]
      · rw [if_neg hz]
        cases hv : validD s.data.toList
        · exact ⟨_, rfl, rfl⟩
        · refine ⟨_, rfl, ?_⟩
          simp only [if_true, hr]
    · rw [if_neg hb, if_neg hb]; exact ⟨_, rfl, rfl⟩
  rw [if_neg h3, if_neg h3]
  refine dup ?_
  by_cases h4 : a = 4
  · by_cases hb : s.toList = [] <;> by_cases hc : b = 0 <;> simp [h4, hb, hc]
  · by_cases h5 : a = 5 <;> by_cases hb : s.toList = [] <;> by_cases hc : b ≥ -719162 <;> simp [h4, h5, hb, hc]


/-! ### the sizes -/
def weigh (l : List S23) : Nat → Nat
  | 0 => 0
  | i + 1 => weigh l i + (l.getD i z23).f2.size
theorem weigh_succ (l : List S23) (i : Nat) : weigh l (i + 1) = weigh l i + (l.getD i z23).f2.size := rfl
theorem weigh_le (l : List S23) : ∀ (j i : Nat), i ≤ j → weigh l i ≤ weigh l j
  | 0, i, h => by
    obtain rfl : i = 0 := by omega
    exact Nat.le_refl _
  | j + 1, i, h => by
    by_cases e : i = j + 1
    · subst e; exact Nat.le_refl _
    · exact Nat.le_trans (weigh_le l j i (by omega)) (by rw [weigh_succ]; omega)
theorem weigh_at (l : List S23) (i : Nat) (hi : i < l.length) : (l.getD i z23).f2.size ≤ weigh l l.length := by
  have := weigh_le l l.length (i + 1) (by omega)
  rw [weigh_succ] at this
  omega

theorem sz_loop (l : List S23) (hl : l.length ≤ 281474976710656) (hs : ∀ i, i < l.length → (l.getD i z23).f2.size ≤ 140737488351232) : ∀ (n i : Nat) (left : Nat), i + n = l.length → left ≤ 1048576 →
    ∃ r, laws_szValueS.l0 (n + 1) l (left : Int) (i : Int) = some r ∧ (r < 0 ∨ weigh l l.length ≤ weigh l i + left) := by
  intro n
  induction n with
  | zero =>
    intro i left hi hle
    refine ⟨left, ?_, .inr ?_⟩
    · simp only [laws_szValueS.l0]
      rw [if_neg (by omega)]
    · obtain rfl : i = l.length := by omega
      omega
  | succ n ih =>
    intro i left hi hle
    have h := hs i (by omega)
    obtain ⟨q, hq⟩ : ∃ q, q = n + 1 := ⟨_, rfl⟩
    rw [← hq] at ih ⊢
    simp only [laws_szValueS.l0, laws_szValue.f]
    rw [if_pos (by omega), if_pos (by omega), rd23, up1 i (by omega), w64 ((left : Int) - ((l.getD i z23).f2.size : Int)) (by omega) (by omega)]
    by_cases c : (left : Int) - ((l.getD i z23).f2.size : Int) < 0
    · refine ⟨-1, ?_, .inl (by decide)⟩
      rw [if_pos c, Option.bind_some, if_pos (by decide)]
    · rw [if_neg c, Option.bind_some, if_neg c, show (left : Int) - ((l.getD i z23).f2.size : Int) = ((left - (l.getD i z23).f2.size : Nat) : Int) by omega]
      obtain ⟨r, h1, h2⟩ := ih (i + 1) (left - (l.getD i z23).f2.size) (by omega) (by omega)
      refine ⟨r, h1, ?_⟩
      rcases h2 with h2 | h2
      · exact .inl h2
      · refine .inr ?_
        have e : weigh l (i + 1) = weigh l i + (l.getD i z23).f2.size := rfl
        omega

theorem sz_told (l : List S23) (hl : l.length ≤ 281474976710656) (hs : ∀ i, i < l.length → (l.getD i z23).f2.size ≤ 140737488351232) :
    ∃ r, Ev (fun k => laws_szValueS.f k l 1048576) r ∧ (r < 0 ∨ (l.length ≤ 1048576 ∧ weigh l l.length ≤ 1048576)) := by
  by_cases c : 1048576 - (l.length : Int) < 0
  · refine ⟨-1, ⟨0, fun m _ => ?_⟩, .inl (by decide)⟩
    show laws_szValueS.f m l 1048576 = _
    unfold laws_szValueS.f
    rw [w64 (1048576 - (l.length : Int)) (by omega) (by omega), if_pos c]
  · obtain ⟨r, h1, h2⟩ := sz_loop l hl hs l.length 0 (1048576 - l.length) (by omega) (by omega)
    refine ⟨r, Ev.of (laws_szValueS.mono l 1048576) ⟨l.length + 1, ?_⟩, ?_⟩
    · unfold laws_szValueS.f
      rw [w64 (1048576 - (l.length : Int)) (by omega) (by omega), if_neg c, show 1048576 - (l.length : Int) = ((1048576 - l.length : Nat) : Int) by omega]
      exact h1
    · rcases h2 with h2 | h2
      · exact .inl h2
      · refine .inr ⟨by omega, ?_⟩
        have e : weigh l 0 = 0 := rfl
        omega

/-! ### the values, turned -/
def turn (x : S23) : S25 := ⟨x.f0, x.f1, x.f2⟩
theorem turn_loop (l : List S23) (hl : l.length ≤ 1048576) : ∀ (n i : Nat) (x : List S25), i + n = l.length → x.length = l.length → x.take i = (l.take i).map turn →
    laws_toValueS.l0 (n + 1) l x (i : Int) = some (l.map turn) := by
  intro n
  induction n with
  | zero =>
    intro i x hi hx ht
    simp only [laws_toValueS.l0]
    rw [if_neg (by omega)]
    obtain rfl : i = l.length := by omega
    rw [List.take_of_length_le (by omega), List.take_of_length_le (Nat.le_refl _)] at ht
    rw [ht]
  | succ n ih =>
    intro i x hi hx ht
    obtain ⟨q, hq⟩ : ∃ q, q = n + 1 := ⟨_, rfl⟩
    rw [← hq] at ih ⊢
    simp only [laws_toValueS.l0, laws_toValue.f]
    rw [if_pos (by omega), if_pos (by omega), Option.bind_some, if_pos (by omega), rd23, up1 i (by omega), Int.toNat_natCast]
    refine ih (i + 1) _ (by omega) (by rw [List.length_set]; exact hx) ?_
    have e1 : l.getD i z23 = l[i] := by simp [List.getD, show i < l.length by omega]
    rw [List.take_succ_eq_append_getElem (show i < l.length by omega), List.map_append, ← ht, List.take_succ_eq_append_getElem (by rw [List.length_set]; omega)]
    congr 1
    · rw [List.take_set_of_le (Nat.le_refl _)]
    · rw [e1]; simp [turn]
theorem turn_told (l : List S23) (hl : l.length ≤ 1048576) : Ev (fun k => laws_toValueS.f k l) (l.map turn) := by
  refine Ev.of (laws_toValueS.mono l) ⟨l.length + 1, ?_⟩
  unfold laws_toValueS.f
  rw [if_pos (by omega), Int.toNat_natCast, if_pos (by omega)]
  exact turn_loop l hl l.length 0 _ (by omega) (by simp) (by simp)

/-! ### a row is itself -/
theorem eqb_loop (l : List Int) (hl : l.length ≤ 281474976710655) : ∀ (n i : Nat), i + n = l.length → laws_eqByteS.l0 (n + 1) l l (i : Int) = some true := by
  intro n
  induction n with
  | zero =>
    intro i hi
    simp only [laws_eqByteS.l0]
    rw [if_neg (by omega)]
  | succ n ih =>
    intro i hi
    obtain ⟨q, hq⟩ : ∃ q, q = n + 1 := ⟨_, rfl⟩
    rw [← hq] at ih ⊢
    simp only [laws_eqByteS.l0]
    rw [if_pos (by omega), if_pos (by omega), if_pos (by omega), if_pos trivial, up1 i (by omega)]
    exact ih (i + 1) (by omega)
theorem eqb_told (l : List Int) (hl : l.length ≤ 281474976710655) : Ev (fun k => laws_eqByteS.f k l l) true := by
  refine Ev.of (laws_eqByteS.mono l l) ⟨l.length + 1, ?_⟩
  unfold laws_eqByteS.f
  rw [if_pos rfl]
  exact eqb_loop l hl l.length 0 (by omega)
theorem eqv_loop (l : List S25) (hl : l.length ≤ 281474976710655) : ∀ (n i : Nat), i + n = l.length → laws_eqValueS.l0 (n + 1) l l (i : Int) = some true := by
  intro n
  induction n with
  | zero =>
    intro i hi
    simp only [laws_eqValueS.l0]
    rw [if_neg (by omega)]
  | succ n ih =>
    intro i hi
    obtain ⟨q, hq⟩ : ∃ q, q = n + 1 := ⟨_, rfl⟩
    rw [← hq] at ih ⊢
    simp only [laws_eqValueS.l0, laws_eqValue.f]
    rw [if_pos (by omega), if_pos (by omega), if_pos (by omega), if_pos trivial, if_pos trivial, if_pos trivial, Option.bind_some, if_pos rfl, up1 i (by omega)]
    exact ih (i + 1) (by omega)
theorem eqv_told (l : List S25) (hl : l.length ≤ 281474976710655) : Ev (fun k => laws_eqValueS.f k l l) true := by
  refine Ev.of (laws_eqValueS.mono l l) ⟨l.length + 1, ?_⟩
  unfold laws_eqValueS.f
  rw [if_pos rfl]
  exact eqv_loop l hl l.length 0 (by omega)

/-! ### what is written and held -/
theorem held_loop (z : List Int) (hz : z.length ≤ 4000) : ∀ (n i : Nat) (c : Nat), i + n = z.length → c + n ≤ 5000 → (∀ q, i ≤ q → q < z.length → z.getD q 0 = ((c + q - i : Nat) : Int) % 256) →
    laws_heldByteS.l0 (n + 1) z (c : Int) (i : Int) = some ((c + n : Nat) : Int) := by
  intro n
  induction n with
  | zero =>
    intro i c hi hc hq
    simp only [laws_heldByteS.l0]
    rw [if_neg (by omega)]
    rfl
  | succ n ih =>
    intro i c hi hc hq
    have h0 := hq i (Nat.le_refl _) (by omega)
    obtain ⟨q, hqq⟩ : ∃ q, q = n + 1 := ⟨_, rfl⟩
    rw [← hqq] at ih ⊢
    simp only [laws_heldByteS.l0]
    rw [if_pos (by omega), if_pos (by omega), rd_getD, if_pos (by rw [h0]; congr 1; omega), up1 i (by omega), up1 c (by omega), ih (i + 1) (c + 1) (by omega) (by omega) (fun q h1 h2 => by rw [hq q (by omega) h2]; congr 2; omega)]
    rw [hqq]
    congr 2
    omega
theorem mark_loop (len : Nat) (hz : len ≤ 4000) : ∀ (n i : Nat) (c : Nat) (z : List Int), z.length = len → i + n = len → c = i + 1 → (∀ q, q < i → z.getD q 0 = ((1 + q : Nat) : Int) % 256) →
    ∃ y, laws_markByteS.l0 (n + 1) z (c : Int) (i : Int) = some (((len + 1 : Nat) : Int), y) ∧ y.length = len ∧ ∀ q, q < len → y.getD q 0 = ((1 + q : Nat) : Int) % 256 := by
  intro n
  induction n with
  | zero =>
    intro i c z hl hi hc hq
    obtain rfl : i = len := by omega
    refine ⟨z, ?_, hl, hq⟩
    simp only [laws_markByteS.l0]
    rw [if_neg (by omega), hc]
  | succ n ih =>
    intro i c z hl hi hc hq
    obtain ⟨q, hqq⟩ : ∃ q, q = n + 1 := ⟨_, rfl⟩
    rw [← hqq] at ih ⊢
    obtain ⟨y, h1, h2, h3⟩ := ih (i + 1) (c + 1) (z.set i ((c : Int) % 256)) (by simp [hl]) (by omega) (by omega) (fun a ha => by
      simp only [List.getD, List.getElem?_set]
      by_cases e : i = a
      · subst e
        rw [if_pos rfl, if_pos (by omega)]
        simp only [Option.getD_some]
        rw [hc]; congr 2; omega
      · rw [if_neg e]
        have := hq a (by omega)
        simpa [List.getD] using this)
    refine ⟨y, ?_, h2, h3⟩
    simp only [laws_markByteS.l0]
    rw [if_pos (by omega), if_pos (by omega), Int.toNat_natCast, up1 i (by omega), up1 c (by omega)]
    exact h1
theorem mark_told (z : List Int) (hz : z.length ≤ 4000) : ∃ y, Ev (fun k => laws_markByteS.f k z 1) (((z.length + 1 : Nat) : Int), y) ∧ Ev (fun k => laws_heldByteS.f k y 1) ((z.length + 1 : Nat) : Int) := by
  obtain ⟨y, h1, h2, h3⟩ := mark_loop z.length hz z.length 0 1 z rfl (by omega) rfl (fun q h => by omega)
  refine ⟨y, Ev.of (laws_markByteS.mono z 1) ⟨_, h1⟩, Ev.of (laws_heldByteS.mono y 1) ⟨y.length + 1, ?_⟩⟩
  have h := held_loop y (by omega) y.length 0 1 (by omega) (by omega) (fun q _ hq => by rw [h3 q (by omega)]; congr 2)
  have e : (1 + y.length : Nat) = z.length + 1 := by omega
  rw [e] at h
  exact h

theorem text_loop : ∀ (n : Nat) (a : Nat) (s : ByteArray), n ≤ 18 → a < 10 ^ n → s.size + n ≤ 100 → ∃ r, laws_markText.l0 (n + 1) (a : Int) s = some r := by
  intro n
  induction n with
  | zero =>
    intro a s _ ha hs
    obtain rfl : a = 0 := by simpa using ha
    simp only [laws_markText.l0]
    rw [if_neg (by decide), if_pos (by omega)]
    exact ⟨_, rfl⟩
  | succ n ih =>
    intro a s hn ha hs
    obtain ⟨q, hqq⟩ : ∃ q, q = n + 1 := ⟨_, rfl⟩
    rw [← hqq] at ih
    rw [show n + 1 + 1 = q + 1 by omega]
    simp only [laws_markText.l0]
    by_cases c : (a : Int) > 0
    · rw [if_pos c, Option.bind_some]
      have hsz : (strOfNums [wrap64 (48 + Int.tmod (a : Int) 10) % 256]).size = 1 := by simp [strOfNums]; rfl
      rw [if_pos (by rw [hsz]; omega)]
      have e : wrap64 (Int.tdiv (a : Int) 10) = ((a / 10 : Nat) : Int) := by
        have h1 : Int.tdiv (a : Int) 10 = ((a / 10 : Nat) : Int) := rfl
        have h2 : a < 1000000000000000000 := Nat.lt_of_lt_of_le ha (Nat.le_trans (Nat.pow_le_pow_right (by decide) hn) (by decide))
        rw [h1]
        unfold wrap64
        omega
      rw [e]
      exact ih (a / 10) _ (by omega) (by rw [Nat.div_lt_iff_lt_mul (by decide)]; rw [Nat.pow_succ] at ha; exact ha) (by rw [ByteArray.size_append, hsz]; omega)
    · rw [if_neg c, if_pos (by omega)]
      exact ⟨_, rfl⟩

theorem text_told (a : Nat) (h : a < 1000000000) : ∃ r, Ev (fun k => laws_markText.f k (a : Int)) r := by
  by_cases c : (a : Int) ≤ 0
  · refine ⟨⟨#[109, 48]⟩, 0, fun m _ => ?_⟩
    show laws_markText.f m (a : Int) = _
    unfold laws_markText.f
    rw [if_pos c]
  · obtain ⟨r, hr⟩ := text_loop 9 a ⟨#[]⟩ (by decide) (by omega) (by decide)
    refine ⟨r, Ev.of (laws_markText.mono (a : Int)) ⟨10, ?_⟩⟩
    unfold laws_markText.f
    rw [if_neg c]
    exact hr
theorem markv_loop (len : Nat) (hz : len ≤ 1048576) : ∀ (n i : Nat) (c : Nat) (z : List S25), z.length = len → i + n = len → c = 3 * i + 1 → ∃ y, Ev (fun k => laws_markValueS.l0 k z (c : Int) (i : Int)) (((3 * len + 1 : Nat) : Int), y) := by
  intro n
  induction n with
  | zero =>
    intro i c z hl hi hc
    obtain rfl : i = len := by omega
    refine ⟨z, 1, fun m hm => ?_⟩
    obtain ⟨m, rfl⟩ : ∃ z, m = z + 1 := ⟨m - 1, by omega⟩
    simp only [laws_markValueS.l0]
    rw [if_neg (by omega), hc]
  | succ n ih =>
    intro i c z hl hi hc
    obtain ⟨t, ht⟩ := text_told (c + 2) (by omega)
    obtain ⟨y1, hy1⟩ : ∃ y1, y1 = z.set i (⟨(c : Int), (rd_T25 z (i : Int)).f1, (rd_T25 z (i : Int)).f2⟩ : S25) := ⟨_, rfl⟩
    obtain ⟨y2, hy2⟩ : ∃ y2, y2 = y1.set i (⟨(rd_T25 y1 (i : Int)).f0, ((c + 1 : Nat) : Int), (rd_T25 y1 (i : Int)).f2⟩ : S25) := ⟨_, rfl⟩
    obtain ⟨y, hy⟩ := ih (i + 1) (c + 3) (y2.set i (⟨(rd_T25 y2 (i : Int)).f0, (rd_T25 y2 (i : Int)).f1, t⟩ : S25)) (by rw [List.length_set, hy2, List.length_set, hy1, List.length_set, hl]) (by omega) (by omega)
    refine ⟨y, Ev.succ (Ev.bind (g := fun k t => laws_markValueS.l0 k (y2.set i (⟨(rd_T25 y2 (i : Int)).f0, (rd_T25 y2 (i : Int)).f1, t⟩ : S25)) ((c + 3 : Nat) : Int) ((i + 1 : Nat) : Int)) ht hy) (fun k => ?_)⟩
    simp only [laws_markValueS.l0]
    rw [if_pos (by omega), if_pos (by omega), Option.bind_some, Option.bind_some, Int.toNat_natCast, up1 c (by omega), up1 (c + 1) (by omega), up1 (c + 1 + 1) (by omega), up1 i (by omega), ← hy1, ← hy2]
theorem markv_told (z : List S25) (hz : z.length ≤ 1048576) : ∃ y, Ev (fun k => laws_markValueS.f k z 1) (((3 * z.length + 1 : Nat) : Int), y) :=
  markv_loop z.length hz z.length 0 1 z rfl (by omega) rfl

/-! ### the numbers -/
theorem u64w (x : Int) : IntKind.u64.wrap x = x % 18446744073709551616 := by
  simp [IntKind.wrap, IntKind.signed, IntKind.bits]
def var : Nat → Nat → List Int
  | 0, _ => []
  | f + 1, n => if 128 ≤ n then ((n % 128 + 128 : Nat) : Int) :: var f (n / 128) else [(n : Int)]
theorem var_len : ∀ (f n : Nat), (var f n).length ≤ f
  | 0, _ => by simp [var]
  | f + 1, n => by
    have := var_len f (n / 128)
    unfold var
    split <;> simp <;> omega
theorem or128 : ∀ n : Nat, n < 256 → Go.bits .or .u8 (n : Int) 128 = ((n % 128 + 128 : Nat) : Int) := by
  intro n hn
  show Go.bits .or .u8 (n : Int) ((128 : Nat) : Int) = _
  rw [u8_or_nat n 128 hn (by decide)]
  have : ∀ m : Fin 256, m.val ||| 128 = m.val % 128 + 128 := by decide +kernel
  rw [this ⟨n, hn⟩]
theorem spec_var : ∀ (f n : Nat) (acc : List Int), n < 128 ^ (f + 1) → n < 18446744073709551616 → acc.length + f < 100000000000 → spec_l11Varint.l0 (f + 1) (n : Int) acc = some (acc ++ var (f + 1) n) := by
  intro f
  induction f with
  | zero =>
    intro n acc h1 h2 h3
    simp only [spec_l11Varint.l0, var]
    rw [if_neg (by omega), if_pos (by omega), if_neg (by omega), show ((n : Int)) % 256 = (n : Int) by omega]
  | succ f ih =>
    intro n acc h1 h2 h3
    obtain ⟨q, hq⟩ : ∃ q, q = f + 1 := ⟨_, rfl⟩
    rw [← hq] at ih ⊢
    unfold var
    simp only [spec_l11Varint.l0]
    by_cases c : 128 ≤ n
    · have e1 : Int.tdiv (n : Int) 128 = ((n / 128 : Nat) : Int) := rfl
      have e2 : Int.tmod (n : Int) 128 = ((n % 128 : Nat) : Int) := rfl
      rw [if_pos (by omega), if_pos (by omega), if_pos c, e1, e2, u64w, u64w, show ((n / 128 : Nat) : Int) % 18446744073709551616 = ((n / 128 : Nat) : Int) by omega,
        show (((n % 128 : Nat) : Int) + 128) % 18446744073709551616 % 256 = ((n % 128 + 128 : Nat) : Int) by omega,
        ih (n / 128) _ (by rw [Nat.div_lt_iff_lt_mul (by decide)]; rw [Nat.pow_succ] at h1; rw [hq]; exact h1) (by omega) (by simp; omega), List.append_assoc]
      rfl
    · rw [if_neg (by omega), if_pos (by omega), if_neg c, show ((n : Int)) % 256 = (n : Int) by omega]
theorem impl_var : ∀ (f n : Nat) (acc : List Int), n < 128 ^ (f + 1) → acc.length + f < 100000000000 → impl_zVarint.l0 (f + 1) acc (n : Int) = some (acc ++ var (f + 1) n) := by
  intro f
  induction f with
  | zero =>
    intro n acc h1 h3
    simp only [impl_zVarint.l0, var]
    rw [if_neg (by omega), if_pos (by omega), if_neg (by omega), show ((n : Int)) % 256 = (n : Int) by omega]
  | succ f ih =>
    intro n acc h1 h3
    obtain ⟨q, hq⟩ : ∃ q, q = f + 1 := ⟨_, rfl⟩
    rw [← hq] at ih ⊢
    unfold var
    simp only [impl_zVarint.l0]
    by_cases c : 128 ≤ n
    · rw [if_pos (by omega), if_pos (by omega), if_pos c, show ((n : Int)) % 256 = ((n % 256 : Nat) : Int) by omega, or128 _ (Nat.mod_lt _ (by decide)), show n % 256 % 128 = n % 128 by omega,
        show (n : Int) / 128 = ((n / 128 : Nat) : Int) by omega, ih (n / 128) _ (by rw [Nat.div_lt_iff_lt_mul (by decide)]; rw [Nat.pow_succ] at h1; rw [hq]; exact h1) (by simp; omega), List.append_assoc]
      rfl
    · rw [if_neg (by omega), if_pos (by omega), if_neg c, show ((n : Int)) % 256 = (n : Int) by omega]
theorem spec_varint (n : Nat) (h : n < 18446744073709551616) : Ev (fun k => spec_l11Varint.f k (n : Int)) (var 10 n) :=
  Ev.of (spec_l11Varint.mono (n : Int)) ⟨10, spec_var 9 n [] (Nat.lt_of_lt_of_le h (by decide)) h (by simp)⟩
theorem impl_varint (n : Nat) (acc : List Int) (h : n < 18446744073709551616) (ha : acc.length ≤ 10000000000) : Ev (fun k => impl_zVarint.f k acc (n : Int)) (acc ++ var 10 n) :=
  Ev.of (impl_zVarint.mono acc (n : Int)) ⟨10, impl_var 9 n acc (Nat.lt_of_lt_of_le h (by decide)) (by omega)⟩

/-- A whole number, folded. -/
def fold (a : Int) : Nat := if 0 ≤ a then (2 * a).toNat else (-2 * a - 1).toNat
theorem fold_lt (a : Int) (h0 : -9223372036854775808 ≤ a) (h1 : a ≤ 9223372036854775807) : fold a < 18446744073709551616 := by
  unfold fold; split <;> omega
theorem spec_fold (a : Int) (h0 : -9223372036854775808 ≤ a) (h1 : a ≤ 9223372036854775807) : spec_l11Fold.f a = some ((fold a : Nat) : Int) := by
  unfold spec_l11Fold.f fold
  simp only [u64w]
  by_cases c : a < 0
  · rw [if_pos c, if_neg (by omega), w64 (a + 1) (by omega) (by omega), w64 (-(a + 1)) (by omega) (by omega)]
    congr 1
    omega
  · rw [if_neg c, if_pos (by omega)]
    congr 1
    omega
theorem impl_fold (a : Int) (h0 : -9223372036854775808 ≤ a) (h1 : a ≤ 9223372036854775807) : Go.bits .xor .u64 (IntKind.u64.wrap ((IntKind.u64.wrap (a)) * 2)) (IntKind.u64.wrap (a / 9223372036854775808)) = ((fold a : Nat) : Int) := by
  simp only [u64w]
  unfold fold
  by_cases c : 0 ≤ a
  · rw [if_pos c, show a / 9223372036854775808 % 18446744073709551616 = ((0 : Nat) : Int) by omega, show a % 18446744073709551616 * 2 % 18446744073709551616 = ((2 * a).toNat : Int) by omega, u64_xor_nat _ _ (by omega) (by decide), Nat.xor_zero]
  · have hx := Lib.xor_ones64 (18446744073709551616 + 2 * a).toNat (by omega)
    rw [if_neg c, show a / 9223372036854775808 % 18446744073709551616 = ((2 ^ 64 - 1 : Nat) : Int) by omega, show a % 18446744073709551616 * 2 % 18446744073709551616 = ((18446744073709551616 + 2 * a).toNat : Int) by omega,
      u64_xor_nat _ _ (by omega) (by decide), Nat.xor_comm, hx]
    congr 1
    omega

/-! ### are all values sound -/
section
variable (l : List S25) (hl : l.length ≤ 1048576) (hs : ∀ i, i < l.length → (l.getD i z25).f2.size ≤ 1048576) (hn : ∀ i, i < l.length → -9223372036854775808 ≤ (l.getD i z25).f1 ∧ (l.getD i z25).f1 ≤ 9223372036854775807)
include hl hs
theorem valid_loop : ∀ (n i : Nat), i + n = l.length → ∃ v, Ev (fun k => spec_l11Valid.l0 k l (l.length : Int) (i : Int)) v ∧ Ev (fun k => impl_zBad.l0 k l (l.length : Int) (i : Int)) (!v) := by
  intro n
  induction n with
  | zero =>
    intro i hi
    refine ⟨true, ⟨1, fun m hm => ?_⟩, ⟨1, fun m hm => ?_⟩⟩
    · obtain ⟨m, rfl⟩ : ∃ z, m = z + 1 := ⟨m - 1, by omega⟩
      simp only [spec_l11Valid.l0]
      rw [if_neg (by omega)]
    · obtain ⟨m, rfl⟩ : ∃ z, m = z + 1 := ⟨m - 1, by omega⟩
      simp only [impl_zBad.l0]
      rw [if_neg (by omega)]; rfl
  | succ n ih =>
    intro i hi
    obtain ⟨k, v, h1, h2⟩ := value_both (l.getD i z25).f0 (l.getD i z25).f1 (l.getD i z25).f2 (hs i (by omega))
    have hv := Ev.of (spec_ValueOK.mono _ _ _) ⟨k, h1⟩
    have e1 : ∀ k, spec_l11Valid.l0 (k + 1) l (l.length : Int) (i : Int) = (spec_ValueOK.f k (l.getD i z25).f0 (l.getD i z25).f1 (l.getD i z25).f2).bind fun t => if t = true then spec_l11Valid.l0 k l (l.length : Int) ((i + 1 : Nat) : Int) else some false := by
      intro k
      simp only [spec_l11Valid.l0]
      rw [if_pos (by omega), if_pos (by omega), if_pos (by omega), rd25, up1 i (by omega)]
    have e2 : ∀ k, impl_zBad.l0 (k + 1) l (l.length : Int) (i : Int) = if v = true then impl_zBad.l0 k l (l.length : Int) ((i + 1 : Nat) : Int) else some true := by
      intro k
      simp only [impl_zBad.l0]
      rw [if_pos (by omega), if_pos (by omega), if_pos (by omega), rd25, up1 i (by omega), h2, Option.bind_some]
    cases v with
    | false => exact ⟨false, Ev.succ (Ev.bind (g := fun k t => if t = true then spec_l11Valid.l0 k l (l.length : Int) ((i + 1 : Nat) : Int) else some false) hv (Ev.now false)) e1, Ev.succ (Ev.now true) e2⟩
    | true =>
      obtain ⟨v, g1, g2⟩ := ih (i + 1) (by omega)
      exact ⟨v, Ev.succ (Ev.bind (g := fun k t => if t = true then spec_l11Valid.l0 k l (l.length : Int) ((i + 1 : Nat) : Int) else some false) hv g1) e1, Ev.succ g2 e2⟩
theorem valid_told : ∃ v, Ev (fun k => spec_l11Valid.f k l) v ∧ Ev (fun k => impl_zBad.f k l) (!v) ∧ (v = true → l.length ≤ 16) := by
  by_cases c : (l.length : Int) > 16
  · refine ⟨false, ⟨0, fun m _ => ?_⟩, ⟨0, fun m _ => ?_⟩, fun h => by cases h⟩
    · show spec_l11Valid.f m l = _
      unfold spec_l11Valid.f
      rw [if_pos c]
    · show impl_zBad.f m l = _
      unfold impl_zBad.f
      rw [if_pos c]; rfl
  · obtain ⟨v, g1, g2⟩ := valid_loop l hl hs l.length 0 (by omega)
    refine ⟨v, Ev.eq g1 (fun k => ?_), Ev.eq g2 (fun k => ?_), fun _ => by omega⟩
    · unfold spec_l11Valid.f
      rw [if_neg c]
      rfl
    · unfold impl_zBad.f
      rw [if_neg c]
      rfl

/-! ### the bytes -/
omit hl hs in
theorem bytes_end (acc : List Int) (i : Nat) (hi : l.length ≤ i) : ∃ r, Ev (fun k => spec_RowBytes.l0 k acc l (l.length : Int) (i : Int)) r ∧ Ev (fun k => impl_RowBytes.l0 k acc l (l.length : Int) (i : Int)) r ∧ r.1.length ≤ 4000 := by
  by_cases c : (acc.length : Int) > 4000
  · refine ⟨([], 5), ⟨1, fun m hm => ?_⟩, ⟨1, fun m hm => ?_⟩, by simp⟩
    · obtain ⟨m, rfl⟩ : ∃ z, m = z + 1 := ⟨m - 1, by omega⟩
      simp only [spec_RowBytes.l0]
      rw [if_neg (by omega), if_pos c]
    · obtain ⟨m, rfl⟩ : ∃ z, m = z + 1 := ⟨m - 1, by omega⟩
      simp only [impl_RowBytes.l0]
      rw [if_neg (by omega), if_pos c]
  · refine ⟨(acc, 0), ⟨1, fun m hm => ?_⟩, ⟨1, fun m hm => ?_⟩, by show acc.length ≤ 4000; omega⟩
    · obtain ⟨m, rfl⟩ : ∃ z, m = z + 1 := ⟨m - 1, by omega⟩
      simp only [spec_RowBytes.l0]
      rw [if_neg (by omega), if_neg c]
    · obtain ⟨m, rfl⟩ : ∃ z, m = z + 1 := ⟨m - 1, by omega⟩
      simp only [impl_RowBytes.l0]
      rw [if_neg (by omega), if_neg c]
include hn
theorem bytes_loop : ∀ (n i : Nat) (acc : List Int), i + n = l.length → acc.length + n * 2000000 ≤ 10000000000 →
    ∃ r, Ev (fun k => spec_RowBytes.l0 k acc l (l.length : Int) (i : Int)) r ∧ Ev (fun k => impl_RowBytes.l0 k acc l (l.length : Int) (i : Int)) r ∧ r.1.length ≤ 4000 := by
  intro n
  induction n with
  | zero => intro i acc hi _; exact bytes_end l acc i (by omega)
  | succ n ih =>
    intro i acc hi hb
    have hsz := hs i (by omega)
    have hnn := hn i (by omega)
    generalize hx : l.getD i z25 = x at hsz hnn
    obtain ⟨fl, hfl⟩ : ∃ fl, fl = decide (x.f0 = 1 ∨ x.f0 = 2 ∨ x.f0 = 5) := ⟨_, rfl⟩
    have e1 : ∀ k, spec_RowBytes.l0 (k + 1) acc l (l.length : Int) (i : Int) = spec_RowBytes.j1 k (acc ++ [x.f0 % 256]) l (l.length : Int) (i : Int) x.f0 fl x.f0 x.f1 x.f2 := by
      intro k
      simp only [spec_RowBytes.l0]
      rw [if_pos (by omega), if_pos (by omega), if_pos (by omega), if_pos (by omega), rd25, hx, Option.bind_some, hfl]
      by_cases c1 : x.f0 = 1
      · rw [if_pos c1]; simp [c1]
      · rw [if_neg c1]
        by_cases c2 : x.f0 = 2
        · rw [if_pos c2]; simp [c2]
        · rw [if_neg c2]; simp only [c1, c2, false_or]; rfl
    have e2 : ∀ k, impl_RowBytes.l0 (k + 1) acc l (l.length : Int) (i : Int) = impl_RowBytes.j1 k (acc ++ [x.f0 % 256]) l (l.length : Int) (i : Int) x.f0 fl x.f0 x.f1 x.f2 := by
      intro k
      simp only [impl_RowBytes.l0]
      rw [if_pos (by omega), if_pos (by omega), if_pos (by omega), if_pos (by omega), rd25, hx, Option.bind_some, hfl]
      by_cases c1 : x.f0 = 1
      · rw [if_pos c1]; simp [c1]
      · rw [if_neg c1]
        by_cases c2 : x.f0 = 2
        · rw [if_pos c2]; simp [c2]
        · rw [if_neg c2]; simp only [c1, c2, false_or]; rfl
    obtain ⟨a, ha⟩ : ∃ a, a = acc ++ [x.f0 % 256] := ⟨_, rfl⟩
    have hal : a.length = acc.length + 1 := by rw [ha]; simp
    rw [← ha] at e1 e2
    cases hc : fl with
    | true =>
      have hv := var_len 10 (fold x.f1)
      obtain ⟨r, g1, g2, g3⟩ := ih (i + 1) (a ++ var 10 (fold x.f1)) (by omega) (by rw [List.length_append]; omega)
      have sv := spec_varint (fold x.f1) (fold_lt _ hnn.1 hnn.2)
      have iv := impl_varint (fold x.f1) a (fold_lt _ hnn.1 hnn.2) (by omega)
      have s1 : ∀ k, spec_RowBytes.j1 (k + 1) a l (l.length : Int) (i : Int) x.f0 fl x.f0 x.f1 x.f2 = (spec_l11Varint.f k ((fold x.f1 : Nat) : Int)).bind fun t => if a.length + t.length < 140737488355328 then spec_RowBytes.l0 k (a ++ t) l (l.length : Int) ((i + 1 : Nat) : Int) else none := by
        intro k
        simp only [spec_RowBytes.j1]
        rw [if_pos hc, spec_fold _ hnn.1 hnn.2, Option.bind_some, up1 i (by omega)]
      have s2 : ∀ k, impl_RowBytes.j1 (k + 1) a l (l.length : Int) (i : Int) x.f0 fl x.f0 x.f1 x.f2 = (impl_zVarint.f k a ((fold x.f1 : Nat) : Int)).bind fun t => impl_RowBytes.l0 k t l (l.length : Int) ((i + 1 : Nat) : Int) := by
        intro k
        simp only [impl_RowBytes.j1]
        rw [if_pos hc, impl_fold _ hnn.1 hnn.2, up1 i (by omega)]
      refine ⟨r, Ev.succ (Ev.succ (Ev.bind (g := fun k t => if a.length + t.length < 140737488355328 then spec_RowBytes.l0 k (a ++ t) l (l.length : Int) ((i + 1 : Nat) : Int) else none) sv (Ev.eq g1 (fun k => if_pos (by omega)))) s1) e1,
        Ev.succ (Ev.succ (Ev.bind (g := fun k t => impl_RowBytes.l0 k t l (l.length : Int) ((i + 1 : Nat) : Int)) iv g2) s2) e2, g3⟩
    | false =>
      by_cases c3 : x.f0 = 3
      · have hv := var_len 10 x.f2.size
        have hbl := bytesOf_length x.f2
        obtain ⟨r, g1, g2, g3⟩ := ih (i + 1) (a ++ var 10 x.f2.size ++ bytesOf x.f2) (by omega) (by rw [List.length_append, List.length_append]; omega)
        have sv := spec_varint x.f2.size (by omega)
        have iv := impl_varint x.f2.size a (by omega) (by omega)
        have ez : IntKind.u64.wrap (x.f2.size : Int) = (x.f2.size : Int) := by rw [u64w]; omega
        have s1 : ∀ k, spec_RowBytes.j1 (k + 1) a l (l.length : Int) (i : Int) x.f0 fl x.f0 x.f1 x.f2 = (spec_l11Varint.f k (x.f2.size : Int)).bind fun t => if a.length + t.length < 140737488355328 then (some (a ++ t)).bind fun y => if y.length + x.f2.size < 140737488355328 then spec_RowBytes.l0 k (y ++ bytesOf x.f2) l (l.length : Int) ((i + 1 : Nat) : Int) else none else none := by
          intro k
          simp only [spec_RowBytes.j1]
          rw [if_neg (by rw [hc]; decide), if_pos c3, ez, up1 i (by omega)]
        have s2 : ∀ k, impl_RowBytes.j1 (k + 1) a l (l.length : Int) (i : Int) x.f0 fl x.f0 x.f1 x.f2 = (impl_zVarint.f k a (x.f2.size : Int)).bind fun t => if t.length + x.f2.size < 140737488355328 then impl_RowBytes.l0 k (t ++ bytesOf x.f2) l (l.length : Int) ((i + 1 : Nat) : Int) else none := by
          intro k
          simp only [impl_RowBytes.j1]
          rw [if_neg (by rw [hc]; decide), if_pos c3, ez, up1 i (by omega)]
        refine ⟨r, Ev.succ (Ev.succ (Ev.bind (g := fun k t => if a.length + t.length < 140737488355328 then (some (a ++ t)).bind fun y => if y.length + x.f2.size < 140737488355328 then spec_RowBytes.l0 k (y ++ bytesOf x.f2) l (l.length : Int) ((i + 1 : Nat) : Int) else none else none) sv (Ev.eq g1 (fun k => ?_))) s1) e1,
          Ev.succ (Ev.succ (Ev.bind (g := fun k t => if t.length + x.f2.size < 140737488355328 then impl_RowBytes.l0 k (t ++ bytesOf x.f2) l (l.length : Int) ((i + 1 : Nat) : Int) else none) iv (Ev.eq g2 (fun k => ?_))) s2) e2, g3⟩
        · show (if a.length + (var 10 x.f2.size).length < 140737488355328 then _ else _) = _
          rw [if_pos (by omega), Option.bind_some, if_pos (by rw [List.length_append]; omega)]
        · show (if (a ++ var 10 x.f2.size).length + x.f2.size < 140737488355328 then _ else _) = _
          rw [if_pos (by rw [List.length_append]; omega)]
      · by_cases c4 : x.f0 = 4
        · obtain ⟨r, g1, g2, g3⟩ := ih (i + 1) (a ++ [x.f1 % 256]) (by omega) (by rw [List.length_append]; simp; omega)
          refine ⟨r, Ev.succ (Ev.succ g1 (fun k => ?_)) e1, Ev.succ (Ev.succ g2 (fun k => ?_)) e2, g3⟩
          · simp only [spec_RowBytes.j1]
            rw [if_neg (by rw [hc]; decide), if_neg c3, if_pos c4, if_pos (by omega), up1 i (by omega)]
          · simp only [impl_RowBytes.j1]
            rw [if_neg (by rw [hc]; decide), if_neg c3, if_pos c4, if_pos (by omega), up1 i (by omega)]
        · obtain ⟨r, g1, g2, g3⟩ := ih (i + 1) a (by omega) (by omega)
          refine ⟨r, Ev.succ (Ev.succ g1 (fun k => ?_)) e1, Ev.succ (Ev.succ g2 (fun k => ?_)) e2, g3⟩
          · simp only [spec_RowBytes.j1]
            rw [if_neg (by rw [hc]; decide), if_neg c3, if_neg c4, up1 i (by omega)]
          · simp only [impl_RowBytes.j1]
            rw [if_neg (by rw [hc]; decide), if_neg c3, if_neg c4, up1 i (by omega)]

theorem both_told : ∃ r, Ev (fun k => spec_RowBytes.f k l) r ∧ Ev (fun k => impl_RowBytes.f k l) r ∧ r.1.length ≤ 4000 := by
  obtain ⟨v, h1, h2, h3⟩ := valid_told l hl hs
  cases v with
  | false => exact ⟨([], 1), Ev.bind (g := fun k t => if t = true then spec_RowBytes.l0 k [(l.length : Int) % 256] l (l.length : Int) 0 else some ([], 1)) h1 (Ev.now _), Ev.bind (g := fun k t => if t = true then some ([], 1) else impl_RowBytes.l0 k [(l.length : Int) % 256] l (l.length : Int) 0) h2 (Ev.now _), by simp⟩
  | true =>
    have h16 := h3 rfl
    obtain ⟨r, g1, g2, g3⟩ := bytes_loop l hl hs hn l.length 0 [(l.length : Int) % 256] (by omega) (by simp; omega)
    exact ⟨r, Ev.bind (g := fun k t => if t = true then spec_RowBytes.l0 k [(l.length : Int) % 256] l (l.length : Int) 0 else some ([], 1)) h1 g1, Ev.bind (g := fun k t => if t = true then some ([], 1) else impl_RowBytes.l0 k [(l.length : Int) % 256] l (l.length : Int) 0) h2 g2, g3⟩
end

theorem turn_at (l : List S23) (i : Nat) (hi : i < l.length) : (l.map turn).getD i z25 = turn (l.getD i z23) := by
  simp [List.getD, hi]

theorem FnExactRowBytes (l : List S23) (hl : l.length ≤ 281474976710656) (hs : ∀ i, i < l.length → (l.getD i z23).f2.size ≤ 140737488351232)
    (hn : ∀ i, i < l.length → -9223372036854775808 ≤ (l.getD i z23).f1 ∧ (l.getD i z23).f1 ≤ 9223372036854775807) : ∃ k, laws_FnExactRowBytes.f k l = some true := by
  suffices h : Ev (fun k => laws_FnExactRowBytes.f k l) true by
    obtain ⟨k, hk⟩ := h
    exact ⟨k, hk k (Nat.le_refl _)⟩
  obtain ⟨r, h1, h2⟩ := sz_told l hl hs
  refine Ev.bind h1 ?_
  by_cases c : r < 0
  · exact Ev.eq (Ev.now true) (fun k => if_pos c)
  refine Ev.eq ?_ (fun k => if_neg c)
  obtain ⟨hl2, hw⟩ : l.length ≤ 1048576 ∧ weigh l l.length ≤ 1048576 := by
    rcases h2 with h2 | h2
    · exact absurd h2 c
    · exact h2
  have ht := turn_told l hl2
  have hlen : (l.map turn).length = l.length := by simp
  obtain ⟨⟨z, e⟩, hsp, him, hz⟩ := both_told (l.map turn) (by omega) (fun i hi => by
      rw [turn_at l i (by omega)]
      exact Nat.le_trans (weigh_at l i (by omega)) hw) (fun i hi => by
      rw [turn_at l i (by omega)]
      exact hn i (by omega))
  have hz' : z.length ≤ 4000 := hz
  have hq := eqb_told z (by omega)
  have hv := eqv_told (l.map turn) (by omega)
  obtain ⟨y, hmv⟩ := markv_told (l.map turn) (by omega)
  obtain ⟨m, hm, hh⟩ := mark_told z hz'
  have he : (e != e) = false := by simp
  have j2 : Ev (fun k => laws_FnExactRowBytes.j2 k m ((z.length + 1 : Nat) : Int) false) true := by
    refine Ev.succ (g := fun k => (laws_heldByteS.f k m 1).bind fun t => if t < 0 then some false else if t = ((z.length + 1 : Nat) : Int) then some true else some false) (Ev.bind (g := fun k t => if t < 0 then some false else if t = ((z.length + 1 : Nat) : Int) then some true else some false) hh ?_) (fun k => rfl)
    exact Ev.eq (Ev.now true) (fun k => by
      show (if ((z.length + 1 : Nat) : Int) < 0 then _ else _) = _
      rw [if_neg (by omega), if_pos rfl])
  have j1 : Ev (fun k => laws_FnExactRowBytes.j1 k l z e z false) true := by
    refine Ev.succ (g := _) (Ev.bind hm (Ev.bind hh ?_)) (fun k => rfl)
    refine Ev.eq (g := _) ?_ (fun k => if_neg (by omega))
    refine Ev.eq (g := _) ?_ (fun k => if_pos rfl)
    refine Ev.bind ht (Ev.bind him (Ev.bind hq ?_))
    refine Ev.eq (g := _) ?_ (fun k => if_pos rfl)
    show Ev (fun k => laws_FnExactRowBytes.j2 k m ((z.length + 1 : Nat) : Int) (e != e)) true
    rw [he]
    exact j2
  have j0 : Ev (fun k => laws_FnExactRowBytes.j0 k l z e (l.map turn) z e false) true := by
    refine Ev.succ (g := _) (Ev.bind ht (Ev.bind hv ?_)) (fun k => rfl)
    refine Ev.eq (g := _) ?_ (fun k => if_pos rfl)
    refine Ev.bind hmv ?_
    refine Ev.eq (g := _) ?_ (fun k => if_neg (by omega))
    refine Ev.bind hq ?_
    refine Ev.eq (g := _) ?_ (fun k => if_pos rfl)
    show Ev (fun k => laws_FnExactRowBytes.j1 k l z e z (e != e)) true
    rw [he]
    exact j1
  refine Ev.bind ht (Ev.bind hsp (Ev.bind ht (Ev.bind him (Ev.bind hq ?_))))
  refine Ev.eq (g := _) ?_ (fun k => if_pos rfl)
  show Ev (fun k => laws_FnExactRowBytes.j0 k l z e (l.map turn) z e (e != e)) true
  rw [he]
  exact j0

end Go.Proofs.YtaicfmmgmblmiaaDoor.PureFnExactRowBytes
