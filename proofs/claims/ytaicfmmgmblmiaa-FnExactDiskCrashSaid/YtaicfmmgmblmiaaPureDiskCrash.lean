/- Proved: for every disk, every list of writes and of choices (numbers as Go holds them, lists that fit into memory) the program's DiskCrash and the reference's DiskCrash answer alike, and the law's checks of what is kept and written hold. No other conditions. -/
import Derived.Test.YtaicfmmgmblmiaaDcL
set_option linter.unusedVariables false
namespace Go.Proofs.Ytaicfmmgmblmiaa.PureDiskCrash
open Go.RowKit Go.Proofs.Ytaicfmmgmblmiaa.QFnExactDiskCrash Go.Proofs.YtaicfmmgmblmiaaW.PrintWords Go.Proofs.YtaicfmmgmblmiaaW.PrintLast

theorem mono_le {α : Type} {f : Nat → Option α} (h : ∀ k, LeO (f k) (f (k + 1))) {k m : Nat} (hk : k ≤ m) {r : α} (e : f k = some r) : f m = some r := by
  obtain ⟨d, rfl⟩ : ∃ d, m = k + d := ⟨m - k, by omega⟩
  clear hk
  induction d with
  | zero => exact e
  | succ d ih => exact h _ _ ih
/-- With enough rounds, it is told for good. -/
def Ev {α : Type} (f : Nat → Option α) (r : α) : Prop := ∃ k, ∀ m, k ≤ m → f m = some r
theorem Ev.of {α : Type} {f : Nat → Option α} {r : α} (hm : ∀ k, LeO (f k) (f (k + 1))) (h : ∃ k, f k = some r) : Ev f r := by
  obtain ⟨k, hk⟩ := h
  exact ⟨k, fun m hle => mono_le hm hle hk⟩
theorem Ev.succ {α : Type} {f g : Nat → Option α} {r : α} (h : Ev g r) (e : ∀ k, f (k + 1) = g k) : Ev f r := by
  obtain ⟨k, hk⟩ := h
  refine ⟨k + 1, fun m hm => ?_⟩
  obtain ⟨m, rfl⟩ : ∃ z, m = z + 1 := ⟨m - 1, by omega⟩
  rw [e]; exact hk m (by omega)
theorem Ev.bind {α β : Type} {f : Nat → Option α} {r : α} (h : Ev f r) {g : Nat → α → Option β} {s : β} (hg : Ev (fun k => g k r) s) : Ev (fun k => (f k).bind (g k)) s := by
  obtain ⟨k, hk⟩ := h
  obtain ⟨l, hl⟩ := hg
  refine ⟨k + l, fun m hm => ?_⟩
  show (f m).bind (g m) = some s
  rw [hk m (by omega)]
  exact hl m (by omega)
theorem Ev.now {α : Type} (r : α) : Ev (fun _ => some r) r := ⟨0, fun _ _ => rfl⟩
theorem Ev.eq {α : Type} {f g : Nat → Option α} {r : α} (h : Ev g r) (e : ∀ k, f k = g k) : Ev f r := by
  obtain ⟨k, hk⟩ := h
  exact ⟨k, fun m hm => by rw [e]; exact hk m hm⟩
theorem rd_getD (l : List Int) (i : Nat) : rd l (i : Int) = l.getD i 0 := by unfold rd; rw [Int.toNat_natCast]
theorem rd66 (l : List S66) (i : Nat) : rd_T66 l (i : Int) = l.getD i z66 := by unfold rd_T66; rw [Int.toNat_natCast]
theorem rd64 (l : List S64) (i : Nat) : rd_T64 l (i : Int) = l.getD i z64 := by unfold rd_T64; rw [Int.toNat_natCast]
theorem rdL2 (l : List (List Int)) (i : Nat) : rd_L2 l (i : Int) = l.getD i [] := by unfold rd_L2; rw [Int.toNat_natCast]
theorem up1 (i : Nat) (h : i ≤ 281474976710656) : wrap64 ((i : Int) + 1) = ((i + 1 : Nat) : Int) := by unfold wrap64; omega
theorem dn1 (i : Nat) (h : i ≤ 281474976710656) : wrap64 (((i + 1 : Nat) : Int) - 1) = (i : Int) := by unfold wrap64; omega
theorem w64 (n : Int) (h1 : -9223372036854775808 ≤ n) (h2 : n ≤ 9223372036854775807) : wrap64 n = n := by unfold wrap64; omega
/-! ### sizes -/
theorem szB (b : List Int) (hb : b.length ≤ 281474976710656) (a : Int) (h0 : 0 ≤ a) (h1 : a ≤ 1048576) : laws_szByteS.f b a = some (if a - (b.length : Int) < 0 then -1 else a - (b.length : Int)) := by
  unfold laws_szByteS.f
  rw [w64 (a - (b.length : Int)) (by omega) (by omega)]
  split <;> rfl
theorem szSS_loop (l : List (List Int)) (hl : l.length ≤ 281474976710656) (hs : ∀ i, (l.getD i []).length ≤ 281474976710656) : ∀ (n i : Nat) (left : Int), i + n = l.length → 0 ≤ left → left ≤ 1048576 →
    ∃ r, laws_szByteSS.l0 (n + 1) l left (i : Int) = some r ∧ (r < 0 ∨ (r ≤ 1048576 ∧ ∀ j, i ≤ j → j < l.length → (l.getD j []).length ≤ 1048576)) := by
  intro n
  induction n with
  | zero =>
    intro i left hi h0 h1
    refine ⟨left, ?_, .inr ⟨h1, fun j h1 h2 => by omega⟩⟩
    simp only [laws_szByteSS.l0]
    rw [if_neg (by omega)]
  | succ n ih =>
    intro i left hi h0 h1
    have h := hs i
    obtain ⟨q, hq⟩ : ∃ q, q = n + 1 := ⟨_, rfl⟩
    rw [← hq] at ih ⊢
    simp only [laws_szByteSS.l0]
    rw [if_pos (by omega), if_pos (by omega), rdL2, up1 i (by omega), szB _ h left h0 h1, Option.bind_some]
    generalize hx : l.getD i [] = x at h
    by_cases c : left - (x.length : Int) < 0
    · refine ⟨-1, ?_, .inl (by decide)⟩
      rw [if_pos c, if_pos (by decide)]
    · rw [if_neg c, if_neg c]
      obtain ⟨r, g1, g2⟩ := ih (i + 1) (left - (x.length : Int)) (by omega) (by omega) (by omega)
      refine ⟨r, g1, g2.imp id fun g => ⟨g.1, fun j h1 h2 => ?_⟩⟩
      by_cases e : j = i
      · subst e; rw [hx]; omega
      · exact g.2 j (by omega) h2
theorem off_short {l : List (List Int)} {i : Nat} (h : ¬ i < l.length) : l.getD i [] = [] := by simp [List.getD, Nat.le_of_not_lt h]
theorem sz_disk (l : List (List Int)) (hl : l.length ≤ 281474976710656) (hs : ∀ i, (l.getD i []).length ≤ 281474976710656) :
    ∃ r, Ev (fun k => laws_szDisk.f k l 1048576) r ∧ (r < 0 ∨ (0 ≤ r ∧ r ≤ 1048576 ∧ l.length ≤ 1048576 ∧ Short2 l)) := by
  by_cases c : 1048576 - (l.length : Int) < 0
  · refine ⟨-1, Ev.eq (Ev.now _) (fun k => ?_), .inl (by decide)⟩
    unfold laws_szDisk.f laws_szByteSS.f
    rw [w64 (1048576 - (l.length : Int)) (by omega) (by omega), if_pos c, Option.bind_some, if_pos (by decide)]
  · obtain ⟨r, h1, h2⟩ := szSS_loop l hl hs l.length 0 (1048576 - l.length) (by omega) (by omega) (by omega)
    refine ⟨if r < 0 then -1 else r, Ev.of (laws_szDisk.mono l 1048576) ⟨l.length + 1, ?_⟩, ?_⟩
    · unfold laws_szDisk.f laws_szByteSS.f
      rw [w64 (1048576 - (l.length : Int)) (by omega) (by omega), if_neg c, show ((0 : Int)) = ((0 : Nat) : Int) from rfl, h1, Option.bind_some]
      split <;> rfl
    · by_cases hr : r < 0
      · rw [if_pos hr]; exact .inl (by decide)
      · rw [if_neg hr]
        obtain ⟨g1, g2⟩ := h2.resolve_left hr
        refine .inr ⟨by omega, g1, by omega, fun j => ?_⟩
        by_cases hj : j < l.length
        · exact g2 j (by omega) hj
        · rw [off_short hj]; decide
theorem szW_loop (l : List S64) (hl : l.length ≤ 281474976710656) (hs : ∀ i, (l.getD i z64).f1.length ≤ 281474976710656) : ∀ (n i : Nat) (left : Int), i + n = l.length → 0 ≤ left → left ≤ 1048576 →
    ∃ r, laws_szWriteS.l0 (n + 1) l left (i : Int) = some r ∧ (r < 0 ∨ ∀ j, i ≤ j → j < l.length → (l.getD j z64).f1.length ≤ 1048576) := by
  intro n
  induction n with
  | zero =>
    intro i left hi h0 h1
    refine ⟨left, ?_, .inr (fun j h1 h2 => by omega)⟩
    simp only [laws_szWriteS.l0]
    rw [if_neg (by omega)]
  | succ n ih =>
    intro i left hi h0 h1
    have h := hs i
    obtain ⟨q, hq⟩ : ∃ q, q = n + 1 := ⟨_, rfl⟩
    rw [← hq] at ih ⊢
    simp only [laws_szWriteS.l0, laws_szWrite.f]
    rw [if_pos (by omega), if_pos (by omega), rd64, up1 i (by omega), szB _ h left h0 h1, Option.bind_some]
    generalize hx : l.getD i z64 = x at h
    by_cases c : left - (x.f1.length : Int) < 0
    · refine ⟨-1, ?_, .inl (by decide)⟩
      rw [if_pos c, if_pos (by decide), Option.bind_some, if_pos (by decide)]
    · rw [if_neg c, if_neg c, Option.bind_some, if_neg c]
      obtain ⟨r, g1, g2⟩ := ih (i + 1) (left - (x.f1.length : Int)) (by omega) (by omega) (by omega)
      refine ⟨r, g1, g2.imp id fun g j h1 h2 => ?_⟩
      by_cases e : j = i
      · subst e; rw [hx]; omega
      · exact g j (by omega) h2
theorem sz_writes (l : List S64) (hl : l.length ≤ 281474976710656) (hs : ∀ i, (l.getD i z64).f1.length ≤ 281474976710656) (a : Int) (h0 : 0 ≤ a) (h1 : a ≤ 1048576) :
    ∃ r, Ev (fun k => laws_szWriteS.f k l a) r ∧ (r < 0 ∨ (l.length ≤ 1048576 ∧ ∀ j, (l.getD j z64).f1.length ≤ 1048576)) := by
  by_cases c : a - (l.length : Int) < 0
  · refine ⟨-1, Ev.eq (Ev.now _) (fun k => ?_), .inl (by decide)⟩
    unfold laws_szWriteS.f
    rw [w64 (a - (l.length : Int)) (by omega) (by omega), if_pos c]
  · obtain ⟨r, g1, g2⟩ := szW_loop l hl hs l.length 0 (a - l.length) (by omega) (by omega) (by omega)
    refine ⟨r, Ev.of (laws_szWriteS.mono l a) ⟨l.length + 1, ?_⟩, g2.imp id fun g => ⟨by omega, fun j => ?_⟩⟩
    · unfold laws_szWriteS.f
      rw [w64 (a - (l.length : Int)) (by omega) (by omega), if_neg c]
      exact g1
    · by_cases hj : j < l.length
      · exact g j (by omega) hj
      · rw [show l.getD j z64 = z64 by simp [List.getD, Nat.le_of_not_lt hj]]; decide
/-! ### copies -/
theorem toi_loop (l : List Int) (hl : l.length ≤ 1048576) : ∀ (n i : Nat) (x : List Int), i + n = l.length → x.length = l.length → x.take i = l.take i → laws_toIntS.l0 (n + 1) l x (i : Int) = some l := by
  intro n
  induction n with
  | zero =>
    intro i x hi hx ht
    simp only [laws_toIntS.l0]
    rw [if_neg (by omega)]
    obtain rfl : i = l.length := by omega
    rw [List.take_of_length_le (by omega), List.take_of_length_le (Nat.le_refl _)] at ht
    rw [ht]
  | succ n ih =>
    intro i x hi hx ht
    obtain ⟨q, hq⟩ : ∃ q, q = n + 1 := ⟨_, rfl⟩
    rw [← hq] at ih ⊢
    simp only [laws_toIntS.l0]
    rw [if_pos (by omega), if_pos (by omega), if_pos (by omega), rd_getD, up1 i (by omega), Int.toNat_natCast]
    refine ih (i + 1) _ (by omega) (by rw [List.length_set]; exact hx) ?_
    have e1 : l.getD i 0 = l[i] := by simp [List.getD, show i < l.length by omega]
    rw [List.take_succ_eq_append_getElem (show i < l.length by omega), ← ht, List.take_succ_eq_append_getElem (by rw [List.length_set]; omega)]
    congr 1
    · rw [List.take_set_of_le (Nat.le_refl _)]
    · rw [e1]; simp
theorem toi_told (l : List Int) (hl : l.length ≤ 1048576) : Ev (fun k => laws_toIntS.f k l) l := by
  refine Ev.of (laws_toIntS.mono l) ⟨l.length + 1, ?_⟩
  unfold laws_toIntS.f
  rw [if_pos (by omega), Int.toNat_natCast, if_pos (by omega)]
  exact toi_loop l hl l.length 0 _ (by omega) (by simp) (by simp)
theorem tob_loop (l : List Int) (hl : l.length ≤ 1048576) : ∀ (n i : Nat) (x : List Int), i + n = l.length → x.length = l.length → x.take i = l.take i → laws_toByteS.l0 (n + 1) l x (i : Int) = some l := by
  intro n
  induction n with
  | zero =>
    intro i x hi hx ht
    simp only [laws_toByteS.l0]
    rw [if_neg (by omega)]
    obtain rfl : i = l.length := by omega
    rw [List.take_of_length_le (by omega), List.take_of_length_le (Nat.le_refl _)] at ht
    rw [ht]
  | succ n ih =>
    intro i x hi hx ht
    obtain ⟨q, hq⟩ : ∃ q, q = n + 1 := ⟨_, rfl⟩
    rw [← hq] at ih ⊢
    simp only [laws_toByteS.l0]
    rw [if_pos (by omega), if_pos (by omega), if_pos (by omega), rd_getD, up1 i (by omega), Int.toNat_natCast]
    refine ih (i + 1) _ (by omega) (by rw [List.length_set]; exact hx) ?_
    have e1 : l.getD i 0 = l[i] := by simp [List.getD, show i < l.length by omega]
    rw [List.take_succ_eq_append_getElem (show i < l.length by omega), ← ht, List.take_succ_eq_append_getElem (by rw [List.length_set]; omega)]
    congr 1
    · rw [List.take_set_of_le (Nat.le_refl _)]
    · rw [e1]; simp
theorem tob_told (l : List Int) (hl : l.length ≤ 1048576) : Ev (fun k => laws_toByteS.f k l) l := by
  refine Ev.of (laws_toByteS.mono l) ⟨l.length + 1, ?_⟩
  unfold laws_toByteS.f
  rw [if_pos (by omega), Int.toNat_natCast, if_pos (by omega)]
  exact tob_loop l hl l.length 0 _ (by omega) (by simp) (by simp)
theorem toSS_loop (l : List (List Int)) (hl : l.length ≤ 1048576) (hs : Short2 l) : ∀ (n i : Nat) (x : List (List Int)), i + n = l.length → x.length = l.length → x.take i = l.take i → Ev (fun k => laws_toByteSS.l0 k l x (i : Int)) l := by
  intro n
  induction n with
  | zero =>
    intro i x hi hx ht
    obtain rfl : i = l.length := by omega
    rw [List.take_of_length_le (by omega), List.take_of_length_le (Nat.le_refl _)] at ht
    rw [ht]
    exact Ev.succ (Ev.now _) (fun k => by simp only [laws_toByteSS.l0]; rw [if_neg (by omega)])
  | succ n ih =>
    intro i x hi hx ht
    have h := ih (i + 1) (x.set i (l.getD i [])) (by omega) (by rw [List.length_set]; exact hx) (by
      have e1 : l.getD i [] = l[i] := by simp [List.getD, show i < l.length by omega]
      rw [List.take_succ_eq_append_getElem (show i < l.length by omega), ← ht, List.take_succ_eq_append_getElem (by rw [List.length_set]; omega)]
      congr 1
      · rw [List.take_set_of_le (Nat.le_refl _)]
      · rw [e1]; simp)
    refine Ev.succ (g := fun k => (laws_toByteS.f k (l.getD i [])).bind fun t => laws_toByteSS.l0 k l (x.set i t) ((i + 1 : Nat) : Int)) (Ev.bind (tob_told _ (hs i)) h) (fun k => ?_)
    simp only [laws_toByteSS.l0]
    rw [if_pos (by omega), if_pos (by omega), rdL2, up1 i (by omega), Int.toNat_natCast]
    simp only [show ((i : Int) < (x.length : Int)) from by omega, if_true]
theorem to_disk (l : List (List Int)) (hl : l.length ≤ 1048576) (hs : Short2 l) : Ev (fun k => laws_toDisk.f k l) l := by
  refine Ev.eq (Ev.bind (g := fun k t => some t) (toSS_loop l hl hs l.length 0 (List.replicate l.length []) (by omega) (by simp) (by simp)) (Ev.now _)) (fun k => ?_)
  unfold laws_toDisk.f laws_toByteSS.f
  rw [if_pos (by omega), Int.toNat_natCast, if_pos (by omega)]
  rfl
def conv (x : S64) : S66 := ⟨x.f0, x.f1⟩
theorem conv_at (l : List S64) (i : Nat) : (l.map conv).getD i z66 = conv (l.getD i z64) := by
  by_cases hi : i < l.length
  · simp [List.getD, hi]
  · simp [List.getD, Nat.le_of_not_lt hi]; rfl
theorem toW_loop (l : List S64) (hl : l.length ≤ 1048576) (hs : ∀ j, (l.getD j z64).f1.length ≤ 1048576) : ∀ (n i : Nat) (x : List S66), i + n = l.length → x.length = l.length → x.take i = (l.take i).map conv →
    Ev (fun k => laws_toWriteS.l0 k l x (i : Int)) (l.map conv) := by
  intro n
  induction n with
  | zero =>
    intro i x hi hx ht
    obtain rfl : i = l.length := by omega
    rw [List.take_of_length_le (by omega), List.take_of_length_le (Nat.le_refl _)] at ht
    rw [← ht]
    exact Ev.succ (Ev.now _) (fun k => by simp only [laws_toWriteS.l0]; rw [if_neg (by omega)])
  | succ n ih =>
    intro i x hi hx ht
    have h := ih (i + 1) (x.set i (conv (l.getD i z64))) (by omega) (by rw [List.length_set]; exact hx) (by
      have e1 : l.getD i z64 = l[i] := by simp [List.getD, show i < l.length by omega]
      rw [List.take_succ_eq_append_getElem (show i < l.length by omega), List.map_append, ← ht, List.take_succ_eq_append_getElem (by rw [List.length_set]; omega)]
      congr 1
      · rw [List.take_set_of_le (Nat.le_refl _)]
      · rw [e1]; simp)
    refine Ev.succ (g := fun k => (laws_toWrite.f k (l.getD i z64).f0 (l.getD i z64).f1).bind fun b => laws_toWriteS.l0 k l (x.set i ⟨b.1, b.2⟩) ((i + 1 : Nat) : Int)) ?_ (fun k => ?_)
    · refine Ev.bind (r := ((l.getD i z64).f0, (l.getD i z64).f1)) ?_ h
      exact Ev.bind (g := fun k t => some ((l.getD i z64).f0, t)) (tob_told _ (hs i)) (Ev.now _)
    · simp only [laws_toWriteS.l0]
      rw [if_pos (by omega), if_pos (by omega), rd64, up1 i (by omega), Int.toNat_natCast]
      simp only [show ((i : Int) < (x.length : Int)) from by omega, if_true]
theorem to_writes (l : List S64) (hl : l.length ≤ 1048576) (hs : ∀ j, (l.getD j z64).f1.length ≤ 1048576) : Ev (fun k => laws_toWriteS.f k l) (l.map conv) := by
  refine Ev.eq (toW_loop l hl hs l.length 0 (List.replicate l.length z66) (by omega) (by simp) (by simp)) (fun k => ?_)
  unfold laws_toWriteS.f
  rw [if_pos (by omega), Int.toNat_natCast, if_pos (by omega)]
  rfl
/-! ### a thing is equal to itself -/
theorem eqi_loop (l : List Int) (hl : l.length ≤ 1048576) : ∀ (n i : Nat), i + n = l.length → laws_eqIntS.l0 (n + 1) l l (i : Int) = some true := by
  intro n
  induction n with
  | zero =>
    intro i hi
    simp only [laws_eqIntS.l0]
    rw [if_neg (by omega)]
  | succ n ih =>
    intro i hi
    obtain ⟨q, hq⟩ : ∃ q, q = n + 1 := ⟨_, rfl⟩
    rw [← hq] at ih ⊢
    simp only [laws_eqIntS.l0]
    rw [if_pos (by omega), if_pos (by omega), if_pos (by omega), if_pos trivial, up1 i (by omega)]
    exact ih (i + 1) (by omega)
theorem eqi_told (l : List Int) (hl : l.length ≤ 1048576) : Ev (fun k => laws_eqIntS.f k l l) true := by
  refine Ev.of (laws_eqIntS.mono l l) ⟨l.length + 1, ?_⟩
  unfold laws_eqIntS.f
  rw [if_pos rfl]
  exact eqi_loop l hl l.length 0 (by omega)
theorem eqb_loop (l : List Int) (hl : l.length ≤ 1048576) : ∀ (n i : Nat), i + n = l.length → laws_eqByteS.l0 (n + 1) l l (i : Int) = some true := by
  intro n
  induction n with
  | zero =>
    intro i hi
    simp only [laws_eqByteS.l0]
    rw [if_neg (by omega)]
  | succ n ih =>
    intro i hi
    obtain ⟨q, hq⟩ : ∃ q, q = n + 1 := ⟨_, rfl⟩
    rw [← hq] at ih ⊢
    simp only [laws_eqByteS.l0]
    rw [if_pos (by omega), if_pos (by omega), if_pos (by omega), if_pos trivial, up1 i (by omega)]
    exact ih (i + 1) (by omega)
theorem eqb_told (l : List Int) (hl : l.length ≤ 1048576) : Ev (fun k => laws_eqByteS.f k l l) true := by
  refine Ev.of (laws_eqByteS.mono l l) ⟨l.length + 1, ?_⟩
  unfold laws_eqByteS.f
  rw [if_pos rfl]
  exact eqb_loop l hl l.length 0 (by omega)
theorem eqSS_loop (l : List (List Int)) (hl : l.length ≤ 1048576) (hs : Short2 l) : ∀ (n i : Nat), i + n = l.length → Ev (fun k => laws_eqByteSS.l0 k l l (i : Int)) true := by
  intro n
  induction n with
  | zero =>
    intro i hi
    exact Ev.succ (Ev.now _) (fun k => by simp only [laws_eqByteSS.l0]; rw [if_neg (by omega)])
  | succ n ih =>
    intro i hi
    have h := ih (i + 1) (by omega)
    refine Ev.succ (g := fun k => (laws_eqByteS.f k (l.getD i []) (l.getD i [])).bind fun t => if t = true then laws_eqByteSS.l0 k l l ((i + 1 : Nat) : Int) else some false) (Ev.bind (eqb_told _ (hs i)) (Ev.eq h (fun k => if_pos rfl))) (fun k => ?_)
    simp only [laws_eqByteSS.l0]
    rw [if_pos (by omega), if_pos (by omega), if_pos (by omega), rdL2, up1 i (by omega)]
theorem eq_disk (l : List (List Int)) (hl : l.length ≤ 1048576) (hs : Short2 l) : Ev (fun k => laws_eqDisk.f k l l) true := by
  refine Ev.eq (Ev.bind (g := fun k t => if t = true then some true else some false) (eqSS_loop l hl hs l.length 0 (by omega)) (Ev.now _)) (fun k => ?_)
  unfold laws_eqDisk.f laws_eqByteSS.f
  rw [if_pos rfl]
  rfl
theorem eqW_loop (l : List S66) (hl : l.length ≤ 1048576) (hs : ShortW l) : ∀ (n i : Nat), i + n = l.length → Ev (fun k => laws_eqWriteS.l0 k l l (i : Int)) true := by
  intro n
  induction n with
  | zero =>
    intro i hi
    exact Ev.succ (Ev.now _) (fun k => by simp only [laws_eqWriteS.l0]; rw [if_neg (by omega)])
  | succ n ih =>
    intro i hi
    have h := ih (i + 1) (by omega)
    refine Ev.succ (g := fun k => (laws_eqWrite.f k (l.getD i z66).f0 (l.getD i z66).f1 (l.getD i z66).f0 (l.getD i z66).f1).bind fun t => if t = true then laws_eqWriteS.l0 k l l ((i + 1 : Nat) : Int) else some false) ?_ (fun k => ?_)
    · refine Ev.bind (r := true) ?_ (Ev.eq h (fun k => if_pos rfl))
      refine Ev.eq (Ev.bind (g := fun k t => if t = true then some true else some false) (eqb_told _ (hs i)) (Ev.now _)) (fun k => ?_)
      unfold laws_eqWrite.f
      rw [if_pos rfl]
    · simp only [laws_eqWriteS.l0]
      rw [if_pos (by omega), if_pos (by omega), if_pos (by omega), rd66, up1 i (by omega)]
theorem eq_writes (l : List S66) (hl : l.length ≤ 1048576) (hs : ShortW l) : Ev (fun k => laws_eqWriteS.f k l l) true :=
  Ev.eq (eqW_loop l hl hs l.length 0 (by omega)) (fun k => by unfold laws_eqWriteS.f; rw [if_pos rfl]; rfl)
/-! ### is the disk valid? -/
def okGo (l : List (List Int)) : Nat → Nat → Bool
  | 0, _ => true
  | n + 1, i => if (l.getD i []).length = 0 then okGo l n (i + 1) else if (l.getD i []).length = 512 then okGo l n (i + 1) else false
theorem ok_spec (l : List (List Int)) (hl : l.length ≤ 512) : ∀ (n i : Nat), i + n = l.length → spec_l13DiskOK.l0 (n + 1) l (l.length : Int) (i : Int) = some (okGo l n i) := by
  intro n
  induction n with
  | zero =>
    intro i hi
    simp only [spec_l13DiskOK.l0]
    rw [if_neg (by omega)]
    rfl
  | succ n ih =>
    intro i hi
    have h := ih (i + 1) (by omega)
    obtain ⟨q, hq⟩ : ∃ q, q = n + 1 := ⟨_, rfl⟩
    rw [← hq] at h ⊢
    simp only [spec_l13DiskOK.l0]
    rw [if_pos (by omega), if_pos (by omega), if_pos (by omega), rdL2, up1 i (by omega), h, hq]
    by_cases c : (l.getD i []).length = 0
    · rw [if_pos (show ((l.getD i []).length : Int) = 0 by omega), okGo, if_pos c]
    · rw [if_neg (show ¬ ((l.getD i []).length : Int) = 0 by omega), okGo, if_neg c]
      by_cases c2 : (l.getD i []).length = 512
      · rw [if_pos (show ((l.getD i []).length : Int) = 512 by omega), if_pos c2]
      · rw [if_neg (show ¬ ((l.getD i []).length : Int) = 512 by omega), if_neg c2]
theorem ok_impl (l : List (List Int)) (hl : l.length ≤ 512) : ∀ (n i : Nat), i + n = l.length → impl_zDiskOK.l0 (n + 1) l (l.length : Int) (i : Int) = some (okGo l n i) := by
  intro n
  induction n with
  | zero =>
    intro i hi
    simp only [impl_zDiskOK.l0]
    rw [if_neg (by omega)]
    rfl
  | succ n ih =>
    intro i hi
    have h := ih (i + 1) (by omega)
    obtain ⟨q, hq⟩ : ∃ q, q = n + 1 := ⟨_, rfl⟩
    rw [← hq] at h ⊢
    simp only [impl_zDiskOK.l0]
    rw [if_pos (by omega), if_pos (by omega), if_pos (by omega), rdL2, up1 i (by omega), h, hq]
    by_cases c : (l.getD i []).length = 0
    · rw [if_pos (show ((l.getD i []).length : Int) = 0 by omega), okGo, if_pos c]
    · rw [if_neg (show ¬ ((l.getD i []).length : Int) = 0 by omega), okGo, if_neg c]
      by_cases c2 : (l.getD i []).length = 512
      · rw [if_pos (show ((l.getD i []).length : Int) = 512 by omega), if_pos c2]
      · rw [if_neg (show ¬ ((l.getD i []).length : Int) = 512 by omega), if_neg c2]
theorem ok_valid (l : List (List Int)) : ∀ (n i : Nat), i + n = l.length → okGo l n i = true → ∀ j, i ≤ j → j < l.length → (l.getD j []).length = 0 ∨ (l.getD j []).length = 512 := by
  intro n
  induction n with
  | zero => intro i hi _ j h1 h2; omega
  | succ n ih =>
    intro i hi h j h1 h2
    unfold okGo at h
    by_cases c : (l.getD i []).length = 0
    · rw [if_pos c] at h
      by_cases e : j = i
      · subst e; exact .inl c
      · exact ih (i + 1) (by omega) h j (by omega) h2
    · rw [if_neg c] at h
      by_cases c2 : (l.getD i []).length = 512
      · rw [if_pos c2] at h
        by_cases e : j = i
        · subst e; exact .inr c2
        · exact ih (i + 1) (by omega) h j (by omega) h2
      · rw [if_neg c2] at h; cases h
theorem ok_told (l : List (List Int)) : ∃ (k : Nat) (b : Bool), spec_l13DiskOK.f k l = some b ∧ impl_zDiskOK.f k l = some b ∧ (b = true → Valid l) := by
  by_cases c : (l.length : Int) > 512
  · refine ⟨0, false, ?_, ?_, fun h => by cases h⟩
    · unfold spec_l13DiskOK.f; rw [if_pos c]
    · unfold impl_zDiskOK.f; rw [if_pos c]
  · refine ⟨l.length + 1, okGo l l.length 0, ?_, ?_, fun h => ⟨by omega, fun j => ?_⟩⟩
    · unfold spec_l13DiskOK.f; rw [if_neg c]; exact ok_spec l (by omega) l.length 0 (by omega)
    · unfold impl_zDiskOK.f; rw [if_neg c]; exact ok_impl l (by omega) l.length 0 (by omega)
    · by_cases hj : j < l.length
      · exact ok_valid l l.length 0 (by omega) h j (by omega) hj
      · rw [off_short hj]; exact .inl rfl
/-! ### what is told of a disk -/
theorem blank_told (b : List Int) (hb : b.length ≤ 1000000000) : Ev (fun k => spec_l13Blank.f k b) (nought b) := Ev.of (spec_l13Blank.mono b) ⟨_, blank_eq b hb⟩
theorem valid_short {l : List (List Int)} (h : Valid l) (i : Nat) : (l.getD i []).length ≤ 512 := by rcases h.2 i with e | e <;> omega
theorem out_loop (l : List (List Int)) (h : Valid l) (m : Nat) (hm : m ≤ 512) : ∀ (n i : Nat), i + n = m → Ev (fun k => spec_l13Told.l1 k (m : Int) (i : Int) l ((List.range i).map (blk l))) ((List.range m).map (blk l)) := by
  intro n
  induction n with
  | zero =>
    intro i hi
    obtain rfl : i = m := by omega
    exact Ev.succ (Ev.now _) (fun k => by simp only [spec_l13Told.l1]; rw [if_neg (by omega)])
  | succ n ih =>
    intro i hi
    have g := ih (i + 1) (by omega)
    rw [List.range_succ, List.map_append, List.map_singleton] at g
    exact Ev.succ g (fun k => by simp only [spec_l13Told.l1]; rw [if_pos (by omega), block_eq h (by omega) (by omega), Option.bind_some, if_pos (by rw [List.length_map, List.length_range]; omega), up1 i (by omega), Int.toNat_natCast])
theorem told_loop (l : List (List Int)) (h : Valid l) : ∀ n, n ≤ l.length → Ev (fun k => spec_l13Told.l0 k (n : Int) l) ((List.range (trim l n)).map (blk l)) := by
  have hl := h.1
  have hout : ∀ m, m ≤ l.length → Ev (fun k => spec_l13Told.j1 k (m : Int) l) ((List.range m).map (blk l)) := fun m hm =>
    Ev.succ (out_loop l h m (by omega) m 0 (by omega)) (fun k => by simp only [spec_l13Told.j1]; rfl)
  intro n
  induction n with
  | zero =>
    intro hn
    exact Ev.succ (hout 0 hn) (fun k => by simp only [spec_l13Told.l0]; rw [if_neg (by omega)])
  | succ n ih =>
    intro hn
    have hb := blank_told (l.getD n []) (by have := valid_short h n; omega)
    refine Ev.succ (g := fun k => (spec_l13Blank.f k (l.getD n [])).bind fun t => if t = true then spec_l13Told.l0 k (n : Int) l else spec_l13Told.j1 k ((n + 1 : Nat) : Int) l) (Ev.bind hb ?_) (fun k => ?_)
    · unfold trim
      by_cases c : nought (l.getD n []) = true
      · rw [if_pos c]
        exact Ev.eq (ih (by omega)) (fun k => if_pos c)
      · rw [if_neg c]
        exact Ev.eq (hout (n + 1) hn) (fun k => if_neg c)
    · simp only [spec_l13Told.l0]
      rw [if_pos (by omega), dn1 n (by omega), if_pos (by omega), if_pos (by omega), rdL2]
theorem told_eq (l : List (List Int)) (h : Valid l) : Ev (fun k => spec_l13Told.f k l) ((List.range (trim l l.length)).map (blk l)) := told_loop l h l.length (Nat.le_refl _)
/-! ### the two crashes -/
theorem nought_blk {l : List (List Int)} (h : Valid l) (i : Nat) : nought (blk l i) = nought (l.getD i []) := by
  unfold nought blk
  rw [List.all_append, List.take_of_length_le (valid_short h i)]
  rw [show (List.replicate (512 - (l.getD i []).length) (0 : Int)).all (fun x => x == 0) = true from List.all_eq_true.2 (fun x hx => by rw [(List.mem_replicate.1 hx).2]; rfl), Bool.and_true]
theorem blk_full {l : List (List Int)} {i : Nat} {z : List Int} (h : l.getD i [] = z) (hz : z.length = 512) : blk l i = z := by
  rw [blk, h, hz, List.take_of_length_le (by omega), Nat.sub_self, List.replicate_zero, List.append_nil]
theorem blk_of {l l' : List (List Int)} {i : Nat} (h : l.getD i [] = l'.getD i []) : blk l i = blk l' i := by rw [blk, blk, h]
def Like (d l : List (List Int)) : Prop := Valid d ∧ Fits l ∧ ∀ j, j < 512 → l.getD j [] = blk d j
theorem like_start {d : List (List Int)} (h : Valid d) : Like d ((List.range 512).map (blk d)) := ⟨h, fits_blk d, fun j hj => by simp [List.getD, hj]⟩
theorem like_put {d l : List (List Int)} (h : Like d l) {x : S66} (hx : goodW x = true) {n : Nat} (hn : n ≤ 512) : Like (putS d x.f0.toNat (x.f1.take n ++ (blk d x.f0.toNat).drop n)) (putW l x n) := by
  obtain ⟨g0, g1, g2⟩ := goodW_of hx
  have hb : x.f0.toNat < 512 := by omega
  have hz : (x.f1.take n ++ (blk d x.f0.toNat).drop n).length = 512 := by rw [List.length_append, List.length_take, List.length_drop, blk_len, g2]; omega
  refine ⟨valid_put h.1 hb hz, fits_put h.2.1 g2 hn, fun j hj => ?_⟩
  by_cases e : j = x.f0.toNat
  · subst e
    rw [blk_full (put_at d _ _) hz, putW]
    simp only [List.getD_eq_getElem?_getD, List.getElem?_set_self (show x.f0.toNat < l.length by rw [h.2.1.1]; exact hb), Option.getD_some]
    rw [← List.getD_eq_getElem?_getD, h.2.2 _ hj]
  · have e1 : (putW l x n).getD j [] = l.getD j [] := by
      rw [putW]
      simp only [List.getD_eq_getElem?_getD, List.getElem?_set_ne (fun h => e h.symm)]
    rw [e1, h.2.2 j hj]
    have e2 := put_off d x.f0.toNat (x.f1.take n ++ (blk d x.f0.toNat).drop n) j e
    by_cases c : j < d.length
    · rw [if_pos c] at e2
      exact (blk_of e2).symm
    · rw [if_neg c] at e2
      by_cases c2 : j < x.f0.toNat + 1
      · rw [if_pos c2] at e2
        rw [blk_full e2 List.length_replicate, blk_off d j c]
      · rw [if_neg c2] at e2
        exact (blk_of (e2.trans (off_short c).symm)).symm
theorem like_crash (cs : List Int) : ∀ (ws : List S66) (i : Nat) (d l : List (List Int)), (∀ x, x ∈ ws → goodW x = true) → Like d l → Like (crashS cs ws i d) (crash cs ws i l)
  | [], _, _, _, _, h => h
  | x :: ws, i, d, l, hg, h => like_crash cs ws (i + 1) _ _ (fun y hy => hg y (List.mem_cons_of_mem _ hy)) (like_put h (hg x (List.mem_cons_self ..)) (cutN_le cs i))
theorem like_told {d l : List (List Int)} (h : Like d l) : (List.range (trim d d.length)).map (blk d) = l.take (trim l l.length) := by
  have hA : ∀ n, n ≤ 512 → trim l n = trim d n := by
    intro n
    induction n with
    | zero => intro _; rfl
    | succ n ih =>
      intro hn
      unfold trim
      rw [h.2.2 n (by omega), nought_blk h.1, ih (by omega)]
  have hB : ∀ n, trim d (d.length + n) = trim d d.length := by
    intro n
    induction n with
    | zero => rfl
    | succ n ih =>
      rw [← Nat.add_assoc]
      rw [trim, off_short (show ¬ d.length + n < d.length by omega), if_pos (show nought [] = true from rfl), ih]
  have hd := h.1.1
  have e : trim l l.length = trim d d.length := by
    rw [h.2.1.1, hA 512 (Nat.le_refl _)]
    have := hB (512 - d.length)
    rwa [show d.length + (512 - d.length) = 512 by omega] at this
  rw [e]
  have ht : trim d d.length ≤ 512 := Nat.le_trans (trim_le d _) hd
  refine List.ext_getElem? (fun j => ?_)
  rw [List.getElem?_map]
  by_cases hj : j < trim d d.length
  · have h1 := h.2.2 j (by omega)
    have hjl : j < l.length := by rw [h.2.1.1]; omega
    rw [List.getElem?_range hj, List.getElem?_take_of_lt hj, List.getElem?_eq_getElem hjl, Option.map_some, ← h1]
    simp [List.getD, hjl]
  · rw [List.getElem?_eq_none (by rw [List.length_range]; omega), List.getElem?_eq_none (by rw [List.length_take]; omega)]
    rfl
theorem first_bad (p : Nat → Bool) : ∀ n, (∀ i, i < n → p i = true) ∨ ∃ j, j < n ∧ (∀ i, i < j → p i = true) ∧ p j = false
  | 0 => .inl (fun i h => absurd h (Nat.not_lt_zero _))
  | n + 1 => by
    rcases first_bad p n with h | ⟨j, hj, h1, h2⟩
    · cases hp : p n with
      | true =>
        refine .inl (fun i hi => ?_)
        by_cases e : i = n
        · rw [e]; exact hp
        · exact h i (by omega)
      | false => exact .inr ⟨n, by omega, h, hp⟩
    · exact .inr ⟨j, by omega, h1, h2⟩
theorem short_nil : Short2 [] := fun j => by simp [List.getD]
theorem answers (l : List (List Int)) (ws : List S66) (cs : List Int) (hcs : ∀ i, -9223372036854775808 ≤ cs.getD i 0 ∧ cs.getD i 0 ≤ 9223372036854775807) (hcl : cs.length ≤ 1048576) :
    ∃ (code : Int) (r : List (List Int)), DcAns 16 l ws cs code r ∧ DcAns 20 l ws cs code r ∧ Short2 r ∧ r.length ≤ 1048576 := by
  obtain ⟨k, b, hs, hi, hv⟩ := ok_told l
  cases b with
  | false =>
    refine ⟨1, [], fun A0 c0 A1 c1 A2 c2 w h0 g0 h1 g1 h2 g2 => ?_, fun A0 c0 A1 c1 A2 c2 w h0 g0 h1 g1 h2 g2 => ?_, short_nil, by decide⟩
    · exact (SDiskCrash_disk k A0 c0 l A1 c1 ws A2 c2 cs w h0 g0 h1 g1 h2 g2 hs).mono fun e w' ⟨he, hb⟩ => ⟨_, he, Kd.S_nil _ _ _ _ _, hb⟩
    · exact (DiskCrash_disk k A0 c0 l A1 c1 ws A2 c2 cs w h0 g0 h1 g1 h2 g2 hi).mono fun e w' ⟨he, hb⟩ => ⟨_, he, Kd.S_nil _ _ _ _ _, hb⟩
  | true =>
    have hval := hv rfl
    by_cases hlen : 512 < ws.length
    · refine ⟨1, [], fun A0 c0 A1 c1 A2 c2 w h0 g0 h1 g1 h2 g2 => ?_, fun A0 c0 A1 c1 A2 c2 w h0 g0 h1 g1 h2 g2 => ?_, short_nil, by decide⟩
      · exact (SDiskCrash_many k A0 c0 l A1 c1 ws A2 c2 cs w h0 g0 h1 g1 h2 g2 hs hlen).mono fun e w' ⟨he, hb⟩ => ⟨_, he, Kd.S_nil _ _ _ _ _, hb⟩
      · exact (DiskCrash_many k A0 c0 l A1 c1 ws A2 c2 cs w h0 g0 h1 g1 h2 g2 hi hlen).mono fun e w' ⟨he, hb⟩ => ⟨_, he, Kd.S_nil _ _ _ _ _, hb⟩
    · rcases first_bad (fun i => goodW (rd_T66 ws (i : Int))) ws.length with hg | ⟨j, hj, hg, hbad⟩
      · have hmem : ∀ x, x ∈ ws → goodW x = true := by
          intro x hx
          obtain ⟨i, hi, rfl⟩ := List.mem_iff_getElem.1 hx
          have h9 := hg i hi
          rw [rd66, show ws.getD i z66 = ws[i] by simp [List.getD, hi]] at h9
          exact h9
        have hlike := like_crash cs ws 0 l _ hmem (like_start hval)
        obtain ⟨k2, ht⟩ := told_eq _ hlike.1
        have ht := ht k2 (Nat.le_refl _)
        rw [like_told hlike] at ht
        refine ⟨0, _, fun A0 c0 A1 c1 A2 c2 w h0 g0 h1 g1 h2 g2 => SDiskCrash_good k k2 _ A0 c0 l A1 c1 ws A2 c2 cs w h0 g0 h1 g1 h2 g2 hs hval (by omega) hg hcs (by omega) ht,
          fun A0 c0 A1 c1 A2 c2 w h0 g0 h1 g1 h2 g2 => DiskCrash_good k A0 c0 l A1 c1 ws A2 c2 cs w h0 g0 h1 g1 h2 g2 hi (by omega) hg hcs (by omega), fun j => ?_, ?_⟩
        · generalize crash cs ws 0 ((List.range 512).map (blk l)) = L at hlike
          have h9 := fits_le hlike.2.1 j
          by_cases c : j < trim L L.length
          · rw [show (L.take (trim L L.length)).getD j [] = L.getD j [] by simp only [List.getD_eq_getElem?_getD, List.getElem?_take_of_lt c]]
            omega
          · rw [off_short (by rw [List.length_take]; omega)]
            decide
        · rw [List.length_take, hlike.2.1.1]; omega
      · refine ⟨1, [], fun A0 c0 A1 c1 A2 c2 w h0 g0 h1 g1 h2 g2 => ?_, fun A0 c0 A1 c1 A2 c2 w h0 g0 h1 g1 h2 g2 => ?_, short_nil, by decide⟩
        · exact (SDiskCrash_write k A0 c0 l A1 c1 ws A2 c2 cs w h0 g0 h1 g1 h2 g2 hs (by omega) j hj hg hbad).mono fun e w' ⟨he, hb⟩ => ⟨_, he, Kd.S_nil _ _ _ _ _, hb⟩
        · exact (DiskCrash_write k A0 c0 l A1 c1 ws A2 c2 cs w h0 g0 h1 g1 h2 g2 hi (by omega) j hj hg hbad).mono fun e w' ⟨he, hb⟩ => ⟨_, he, Kd.S_nil _ _ _ _ _, hb⟩
/-- The law, for arguments that are read as lists: it returns true. -/
theorem law_all (l0 : List (List Int)) (l1 : List S64) (cs : List Int) (hl0 : l0.length ≤ 281474976710656) (hs0 : ∀ i, (l0.getD i []).length ≤ 281474976710656) (hl1 : l1.length ≤ 281474976710656) (hs1 : ∀ i, (l1.getD i z64).f1.length ≤ 281474976710656) (hcs : ∀ i, -9223372036854775808 ≤ cs.getD i 0 ∧ cs.getD i 0 ≤ 9223372036854775807)
    (A0 : Option Addr) (c0 : Nat) (A1 : Option Addr) (c1 : Nat) (A2 : Option Addr) (c2 : Nat) (w : World) (hr0 : Kd.C (Kd.slice 5 (Kd.int .u8)) w A0 l0.length l0) (hc0 : l0.length ≤ c0) (hr1 : Kd.C k64 w A1 l1.length l1) (hc1 : l1.length ≤ c1) (hr2 : Kd.C (Kd.int .i64) w A2 cs.length cs) (hc2 : cs.length ≤ c2) :
    Calls Try.prog 4 #[.agg #[.slice A0 l0.length c0], .slice A1 l1.length c1, .slice A2 cs.length c2] w fun e w' => e = .returned (.bool true) ∧ Below w.heap.size w w' := by
  by_cases hb : 1048576 < cs.length
  · exact law_big A0 c0 l0 A1 c1 l1 A2 c2 cs w hr0 hc0 hr1 hc1 hr2 hc2 hb
  have hcl : cs.length ≤ 1048576 := by omega
  obtain ⟨t1, ⟨k1, h1⟩, g1⟩ := sz_disk l0 hl0 hs0
  by_cases ht1 : t1 < 0
  · exact law_sz1 k1 t1 A0 c0 l0 A1 c1 l1 A2 c2 cs w hr0 hc0 hr1 hc1 hr2 hc2 hcl (h1 k1 (Nat.le_refl _)) ht1
  obtain ⟨p0, p1, hlx, hsx⟩ := g1.resolve_left ht1
  obtain ⟨t2, ⟨k2, h2⟩, g2⟩ := sz_writes l1 hl1 hs1 t1 p0 p1
  by_cases ht2 : t2 < 0
  · exact law_sz2 (k1 + k2) t1 A0 c0 l0 A1 c1 l1 A2 c2 cs w hr0 hc0 hr1 hc1 hr2 hc2 hcl (h1 _ (by omega)) ht1 t2 (h2 _ (by omega)) ht2
  obtain ⟨hlw, hsw⟩ := g2.resolve_left ht2
  have hlw' : (l1.map conv).length ≤ 1048576 := by rw [List.length_map]; exact hlw
  have hsw' : ShortW (l1.map conv) := fun j => by rw [conv_at]; exact hsw j
  obtain ⟨code, r, hspec, himpl, hsr, hlr⟩ := answers l0 (l1.map conv) cs hcs hcl
  obtain ⟨k3, h3⟩ := to_disk l0 hlx hsx
  obtain ⟨k4, h4⟩ := to_writes l1 hlw hsw
  obtain ⟨k5, h5⟩ := toi_told cs hcl
  obtain ⟨k6, h6⟩ := eq_disk r hlr hsr
  obtain ⟨k7, h7⟩ := eq_disk l0 hlx hsx
  obtain ⟨k8, h8⟩ := eq_writes _ hlw' hsw'
  obtain ⟨k9, h9⟩ := eqi_told cs hcl
  obtain ⟨k, hk⟩ : ∃ k, k = k1 + k2 + k3 + k4 + k5 + k6 + k7 + k8 + k9 := ⟨_, rfl⟩
  exact law_true k t1 t2 l0 (l1.map conv) code r _ A0 c0 l0 A1 c1 l1 A2 c2 cs w hr0 hc0 hr1 hc1 hr2 hc2 hcl (h1 k (by omega)) ht1 (h2 k (by omega)) ht2 (h3 k (by omega)) (h4 k (by omega)) (h5 k (by omega)) hspec himpl (h6 k (by omega)) (h7 k (by omega)) (h8 k (by omega)) (h9 k (by omega)) hsx hlx hsw' hlw' hsr hlr rfl
end Go.Proofs.Ytaicfmmgmblmiaa.PureDiskCrash
