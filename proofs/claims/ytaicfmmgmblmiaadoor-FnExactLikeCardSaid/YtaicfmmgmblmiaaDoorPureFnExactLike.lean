/- Proved: for two values whose texts fit into memory the program's Like and the reference's Like answer alike. No other conditions. -/
import Derived.Test.YtaicfmmgmblmiaaDoorQFnExactLikex7
import Derived.Test.YtaicfmmgmblmiaaDoorChars
namespace Go.Proofs.YtaicfmmgmblmiaaDoor.Pure
open Go.RowKit Go.Lib Go.Proofs.YtaicfmmgmblmiaaDoor.QFnExactLike Go.Proofs.YtaicfmmgmblmiaaDoorW.PrintWords Go.Proofs.YtaicfmmgmblmiaaDoorW.PrintLast Go.Proofs.YtaicfmmgmblmiaaDoorExt Go.Proofs.YtaicfmmgmblmiaaDoorRunes

theorem mono_le {α : Type} {f : Nat → Option α} (h : ∀ k, LeO (f k) (f (k + 1))) {k m : Nat} (hk : k ≤ m) {r : α} (e : f k = some r) : f m = some r := by
  obtain ⟨d, rfl⟩ : ∃ d, m = k + d := ⟨m - k, by omega⟩
  clear hk
  induction d with
  | zero => exact e
  | succ d ih => exact h _ _ ih
theorem rd_getD (l : List Int) (i : Nat) : rd l (i : Int) = l.getD i 0 := by unfold rd; rw [Int.toNat_natCast]
theorem rdOf_getD {α : Type} (d : α) (l : List α) (i : Nat) : rdOf d l (i : Int) = l.getD i d := by unfold rdOf; rw [Int.toNat_natCast]
theorem up1 (i : Nat) (h : i ≤ 1048577) : wrap64 ((i : Int) + 1) = ((i + 1 : Nat) : Int) := by unfold wrap64; omega
theorem down1 (i : Nat) (h : i ≤ 1048577) : wrap64 (((i + 1 : Nat) : Int) - 1) = (i : Int) := by unfold wrap64; omega

/-! ### the runes -/
theorem runes_from (s : ByteArray) : ∀ (n i : Nat), s.size ≤ i + n → runesFromL s n i = runes (s.data.toList.drop i)
  | 0, i, h => by
    have : s.data.toList.drop i = [] := List.drop_eq_nil_of_le (by simpa using h)
    rw [this]; rfl
  | n + 1, i, h => by
    rw [runesFromL_succ]
    by_cases hp : i < s.size
    · have hne : s.data.toList.drop i ≠ [] := by
        intro e
        have := congrArg List.length e
        rw [List.length_drop] at this
        have hz : s.data.toList.length = s.size := by simp
        simp only [List.length_nil] at this
        omega
      have hw := decode_width_pos s i hp
      rw [if_pos hp, runes_step _ hne, decodeL_drop, runes_from s n _ (by omega), List.drop_drop]
    · have : s.data.toList.drop i = [] := List.drop_eq_nil_of_le (by simp; omega)
      rw [if_neg hp, this]; rfl
theorem runesL_runes (s : ByteArray) : runesL s = runes s.data.toList := by
  unfold runesL
  rw [runes_from s _ 0 (by omega), List.drop_zero]

theorem runesGo_nonneg : ∀ (n : Nat) (l : List UInt8), ∀ x ∈ runesGo n l, 0 ≤ x
  | 0, _, x, h => by simp [runesGo] at h
  | n + 1, l, x, h => by
    unfold runesGo at h
    by_cases hl : l = []
    · simp [hl] at h
    · rw [if_neg hl] at h
      rcases List.mem_cons.mp h with rfl | h
      · omega
      · exact runesGo_nonneg n _ x h
theorem runes_nonneg (l : List UInt8) : ∀ x ∈ runes l, 0 ≤ x := runesGo_nonneg _ l
theorem runesGo_len : ∀ (n : Nat) (l : List UInt8), (runesGo n l).length ≤ n
  | 0, _ => by simp [runesGo]
  | n + 1, l => by
    unfold runesGo
    by_cases hl : l = []
    · simp [hl]
    · rw [if_neg hl, List.length_cons]
      have := runesGo_len n (l.drop (decodeL l).2)
      omega
theorem runes_len (l : List UInt8) : (runes l).length ≤ l.length := runesGo_len _ l

/-! ### the pattern's parts: -1 is '%', -2 is '_' -/
def pat (l : List Int) : Nat → Nat → List Int
  | 0, _ => []
  | n + 1, i => if i < l.length then (if l.getD i 0 = 37 then -1 :: pat l n (i + 1) else if l.getD i 0 = 95 then -2 :: pat l n (i + 1) else
      if l.getD i 0 = 92 ∧ i + 1 < l.length then l.getD (i + 1) 0 :: pat l n (i + 2) else l.getD i 0 :: pat l n (i + 1)) else []
theorem pat_len (l : List Int) : ∀ (n i : Nat), (pat l n i).length ≤ n
  | 0, _ => by simp [pat]
  | n + 1, i => by
    have h1 := pat_len l n (i + 1)
    have h2 := pat_len l n (i + 2)
    unfold pat
    repeat' split
    all_goals simp only [List.length_cons, List.length_nil]
    all_goals omega

theorem spec_pat (l : List Int) (hl : l.length ≤ 1048576) : ∀ (n i : Nat) (acc : List Int), i ≤ l.length → l.length ≤ i + n → acc.length ≤ i → spec_l01Pattern.l0 (n + 1) l acc (i : Int) = some (acc ++ pat l n i) := by
  intro n
  induction n with
  | zero =>
    intro i acc hi hn ha
    simp only [spec_l01Pattern.l0]
    rw [if_neg (by omega)]
    simp [pat]
  | succ n ih =>
    intro i acc hi hn ha
    unfold pat
    obtain ⟨q, hq⟩ : ∃ q, q = n + 1 := ⟨_, rfl⟩
    rw [← hq] at ih ⊢
    simp only [spec_l01Pattern.l0]
    by_cases h : i < l.length
    · rw [if_pos (by omega), if_pos (by omega), rd_getD, up1 i (by omega), if_pos h]
      have step : ∀ x : Int, spec_l01Pattern.l0 q l (acc ++ [x]) ((i + 1 : Nat) : Int) = some (acc ++ (x :: pat l n (i + 1))) := by
        intro x
        have e := ih (i + 1) (acc ++ [x]) (by omega) (by omega) (by simp; omega)
        rw [List.append_assoc] at e
        exact e
      by_cases h1 : l.getD i 0 = 37
      · rw [if_pos h1, if_pos h1, if_pos (by omega)]; exact step _
      · rw [if_neg h1, if_neg h1]
        by_cases h2 : l.getD i 0 = 95
        · rw [if_pos h2, if_pos h2, if_pos (by omega)]; exact step _
        · rw [if_neg h2, if_neg h2]
          by_cases h3 : l.getD i 0 = 92
          · rw [if_pos h3]
            by_cases h4 : i + 1 < l.length
            · rw [if_pos (by omega), if_pos (by omega), if_pos (by omega), if_pos ⟨h3, h4⟩, rd_getD, up1 (i + 1) (by omega)]
              have e := ih (i + 2) (acc ++ [l.getD (i + 1) 0]) (by omega) (by omega) (by simp; omega)
              rw [List.append_assoc] at e
              exact e
            · rw [if_neg (by omega), if_pos (by omega), if_neg (by omega)]; exact step _
          · rw [if_neg h3, if_pos (by omega), if_neg (by omega)]; exact step _
    · rw [if_neg (by omega), if_neg h]; simp

theorem spec_pattern (l : List Int) (hl : l.length ≤ 1048576) : spec_l01Pattern.f (l.length + 1) l = some (pat l l.length 0) := by
  have e := spec_pat l hl l.length 0 [] (by omega) (by omega) (by simp)
  exact e

/-- A part as the program keeps it. -/
def part (c : Int) : S71 := if c = -1 then ⟨0, 37⟩ else if c = -2 then ⟨0, 95⟩ else ⟨c, 0⟩
theorem part_char (c : Int) (h : 0 ≤ c) : part c = ⟨c, 0⟩ := by unfold part; rw [if_neg (by omega), if_neg (by omega)]

theorem rd_part (p : List Int) (j : Nat) (hj : j < p.length) : rd_T71 (p.map part) (j : Int) = part (p.getD j 0) := by
  unfold rd_T71
  rw [Int.toNat_natCast]
  simp [List.getD, hj]

theorem part37 (c : Int) : (part c).f1 = 37 ↔ c = -1 := by
  unfold part
  by_cases h : c = -1
  · simp [h]
  · by_cases h2 : c = -2 <;> simp [h, h2]
theorem part95 (c : Int) (h : c ≠ -1) : (part c).f1 = 95 ↔ c = -2 := by
  unfold part
  by_cases h2 : c = -2 <;> simp [h, h2]
theorem part_r (c : Int) (h : c ≠ -1) (h2 : c ≠ -2) : (part c).f0 = c := by
  unfold part
  simp [h, h2]
theorem len_part (p : List Int) : ((p.map part).length : Int) = (p.length : Int) := by simp

/-! ### does the beginning of the text match the beginning of the pattern -/
def D (t p : List Int) : Nat → Nat → Bool
  | 0, 0 => true
  | _ + 1, 0 => false
  | 0, j + 1 => D t p 0 j && (p.getD j 0 == -1)
  | i + 1, j + 1 => if p.getD j 0 = -1 then D t p i (j + 1) || D t p (i + 1) j else if p.getD j 0 = -2 then D t p i j else D t p i j && (p.getD j 0 == t.getD i 0)
termination_by i j => i + j
theorem D00 (t p : List Int) : D t p 0 0 = true := by rw [D]
theorem D10 (t p : List Int) (i : Nat) : D t p (i + 1) 0 = false := by rw [D]
theorem D01 (t p : List Int) (j : Nat) : D t p 0 (j + 1) = (D t p 0 j && (p.getD j 0 == -1)) := by rw [D]
theorem D11 (t p : List Int) (i j : Nat) : D t p (i + 1) (j + 1) = if p.getD j 0 = -1 then D t p i (j + 1) || D t p (i + 1) j else if p.getD j 0 = -2 then D t p i j else D t p i j && (p.getD j 0 == t.getD i 0) := by rw [D]

/-- A row of n + 1 entries, of which the first i are told, the others false. -/
structure Inv (R : Nat → Bool) (n i : Nat) (x : List Bool) : Prop where
  len : x.length = n + 1
  low : ∀ a, a < i → x.getD a false = R a
  high : ∀ a, i ≤ a → x.getD a false = false
theorem getD_set (x : List Bool) (i a : Nat) (v : Bool) (h : i < x.length) : (x.set i v).getD a false = if a = i then v else x.getD a false := by
  simp only [List.getD, List.getElem?_set]
  by_cases e : i = a
  · subst e; simp [h]
  · have e' : ¬ a = i := fun q => e q.symm
    simp [e, e']
theorem Inv.zero (R : Nat → Bool) (n : Nat) : Inv R n 0 (List.replicate (n + 1) false) :=
  ⟨by simp, fun a h => by omega, fun a _ => by
    simp only [List.getD, List.getElem?_replicate]
    split <;> rfl⟩
theorem Inv.set {R : Nat → Bool} {n i : Nat} {x : List Bool} (h : Inv R n i x) (hi : i ≤ n) {v : Bool} (hv : v = R i) : Inv R n (i + 1) (x.set i v) := by
  have hl := h.len
  refine ⟨by simp [h.len], fun a ha => ?_, fun a ha => ?_⟩
  · rw [getD_set x i a v (by omega)]
    by_cases e : a = i
    · rw [if_pos e, e]; exact hv
    · rw [if_neg e]; exact h.low a (by omega)
  · rw [getD_set x i a v (by omega), if_neg (by omega)]; exact h.high a (by omega)
theorem Inv.skip {R : Nat → Bool} {n i : Nat} {x : List Bool} (h : Inv R n i x) (hv : R i = false) : Inv R n (i + 1) x := by
  refine ⟨h.len, fun a ha => ?_, fun a ha => h.high a (by omega)⟩
  by_cases e : a = i
  · rw [e, h.high i (Nat.le_refl _), hv]
  · exact h.low a (by omega)

/-! ### the reference's table -/
section
variable (t p : List Int) (ht : t.length ≤ 1048576) (hp : p.length ≤ 1048576)
include ht hp

/-- The table's last entry, as the reference hands it back. -/
def tell (b : Bool) : Int × Int × ByteArray × Int := (4, if b then 1 else 0, ⟨#[]⟩, 0)

theorem spec_inner (m : List Bool) (j : Nat) (hj : j < p.length) (hm : Inv (fun a => D t p a j) t.length (t.length + 1) m) (r : Int × Int × ByteArray × Int)
    (next : ∀ x, Inv (fun a => D t p a (j + 1)) t.length (t.length + 1) x → ∃ k, spec_Like.l0 k t x p (p.length : Int) ((j + 1 : Nat) : Int) = some r) :
    ∀ (n i : Nat) (x : List Bool), i + n = t.length + 1 → Inv (fun a => D t p a (j + 1)) t.length i x → ∃ k, spec_Like.l1 k t m (p.getD j 0) x (i : Int) p (p.length : Int) (j : Int) = some r := by
  intro n
  induction n with
  | zero =>
    intro i x hi hx
    obtain rfl : i = t.length + 1 := by omega
    obtain ⟨k, hk⟩ := next x hx
    refine ⟨k + 1, ?_⟩
    simp only [spec_Like.l1]
    rw [if_neg (by omega), up1 j (by omega)]
    exact hk
  | succ n ih =>
    intro i x hi hx
    have hl := hx.len
    have hml := hm.len
    have go : ∀ x', Inv (fun a => D t p a (j + 1)) t.length (i + 1) x' → ∃ k, spec_Like.l1 k t m (p.getD j 0) x' ((i + 1 : Nat) : Int) p (p.length : Int) (j : Int) = some r := fun x' h => ih (i + 1) x' (by omega) h
    have hmi := hm.low i (by omega)
    by_cases h1 : p.getD j 0 = -1
    · cases i with
      | zero =>
        cases hd : D t p 0 j with
        | true =>
          obtain ⟨k, hk⟩ := go (x.set 0 true) (hx.set (by omega) (by rw [D01, hd, h1]; rfl))
          refine ⟨k + 1, ?_⟩
          simp only [spec_Like.l1]
          rw [if_pos (by omega), if_pos h1, if_pos (by omega), if_pos (by omega), rdOf_getD, hmi, if_pos hd, if_pos (by omega), up1 0 (by omega), Int.toNat_natCast]
          exact hk
        | false =>
          obtain ⟨k, hk⟩ := go (x.set 0 false) (hx.set (by omega) (by rw [D01, hd]; rfl))
          refine ⟨k + 1, ?_⟩
          simp only [spec_Like.l1]
          rw [if_pos (by omega), if_pos h1, if_pos (by omega), if_pos (by omega), rdOf_getD, hmi, if_neg (by rw [hd]; decide), if_neg (by omega), if_pos (by omega), up1 0 (by omega), Int.toNat_natCast]
          exact hk
      | succ i =>
        have hxi := hx.low i (by omega)
        cases hd : D t p (i + 1) j with
        | true =>
          obtain ⟨k, hk⟩ := go (x.set (i + 1) true) (hx.set (by omega) (by rw [D11, if_pos h1, hd, Bool.or_true]))
          refine ⟨k + 1, ?_⟩
          simp only [spec_Like.l1]
          rw [if_pos (by omega), if_pos h1, if_pos (by omega), if_pos (by omega), rdOf_getD, hmi, if_pos hd, if_pos (by omega), up1 (i + 1) (by omega), Int.toNat_natCast]
          exact hk
        | false =>
          obtain ⟨k, hk⟩ := go (x.set (i + 1) (x.getD i false)) (hx.set (by omega) (by rw [D11, if_pos h1, hd, Bool.or_false]; exact hxi))
          refine ⟨k + 1, ?_⟩
          simp only [spec_Like.l1]
          rw [if_pos (by omega), if_pos h1, if_pos (by omega), if_pos (by omega), rdOf_getD, hmi, if_neg (by rw [hd]; decide), if_pos (by omega), down1 i (by omega), if_pos (by omega), if_pos (by omega), if_pos (by omega), up1 (i + 1) (by omega), Int.toNat_natCast, rdOf_getD]
          exact hk
    · cases i with
      | zero =>
        obtain ⟨k, hk⟩ := go x (hx.skip (by simp only [D01]; rw [beq_eq_false_iff_ne.mpr h1, Bool.and_false]))
        refine ⟨k + 1, ?_⟩
        simp only [spec_Like.l1]
        rw [if_pos (by omega), if_neg h1, if_neg (by omega), up1 0 (by omega)]
        exact hk
      | succ i =>
        have hmi' := hm.low i (by omega)
        by_cases h2 : p.getD j 0 = -2
        · obtain ⟨k, hk⟩ := go (x.set (i + 1) (m.getD i false)) (hx.set (by omega) (by rw [D11, if_neg h1, if_pos h2]; exact hmi'))
          refine ⟨k + 1, ?_⟩
          simp only [spec_Like.l1]
          rw [if_pos (by omega), if_neg h1, if_pos (by omega), if_pos h2, down1 i (by omega), if_pos (by omega), if_pos (by omega), if_pos (by omega), if_pos (by omega), up1 (i + 1) (by omega), Int.toNat_natCast, rdOf_getD]
          exact hk
        · by_cases h3 : p.getD j 0 = t.getD i 0
          · obtain ⟨k, hk⟩ := go (x.set (i + 1) (m.getD i false)) (hx.set (by omega) (by rw [D11, if_neg h1, if_neg h2, beq_iff_eq.mpr h3, Bool.and_true]; exact hmi'))
            refine ⟨k + 1, ?_⟩
            simp only [spec_Like.l1]
            rw [if_pos (by omega), if_neg h1, if_pos (by omega), if_neg h2, down1 i (by omega), if_pos (by omega), if_pos (by omega), rd_getD, if_pos h3, if_pos (by omega), if_pos (by omega), if_pos (by omega), up1 (i + 1) (by omega), Int.toNat_natCast, rdOf_getD]
            exact hk
          · obtain ⟨k, hk⟩ := go x (hx.skip (by simp only [D11]; rw [if_neg h1, if_neg h2, beq_eq_false_iff_ne.mpr h3, Bool.and_false]))
            refine ⟨k + 1, ?_⟩
            simp only [spec_Like.l1]
            rw [if_pos (by omega), if_neg h1, if_pos (by omega), if_neg h2, down1 i (by omega), if_pos (by omega), if_pos (by omega), rd_getD, if_neg h3, up1 (i + 1) (by omega)]
            exact hk

theorem spec_outer : ∀ (n j : Nat) (x : List Bool), j + n = p.length → Inv (fun a => D t p a j) t.length (t.length + 1) x → ∃ k, spec_Like.l0 k t x p (p.length : Int) (j : Int) = some (tell (D t p t.length p.length)) := by
  intro n
  induction n with
  | zero =>
    intro j x hj hx
    obtain rfl : j = p.length := by omega
    refine ⟨1, ?_⟩
    have hl := hx.len
    simp only [spec_Like.l0]
    rw [if_neg (by omega), if_pos (by omega), if_pos (by omega), rdOf_getD, hx.low _ (by omega)]
    unfold spec_l01Truth.f spec_l01Bit.f tell
    cases D t p t.length p.length <;> rfl
  | succ n ih =>
    intro j x hj hx
    obtain ⟨k, hk⟩ := spec_inner t p ht hp x j (by omega) hx _ (fun y hy => ih (j + 1) y (by omega) hy) (t.length + 1) 0 _ (by omega) (Inv.zero _ t.length)
    refine ⟨k + 1, ?_⟩
    simp only [spec_Like.l0]
    rw [if_pos (by omega), if_pos (by omega), if_pos (by omega), up1 t.length (by omega), if_pos (by omega), Int.toNat_natCast, if_pos (by omega), rd_getD]
    exact hk

theorem spec_table : ∃ k, spec_Like.l0 k t ((List.replicate (t.length + 1) false).set 0 true) p (p.length : Int) 0 = some (tell (D t p t.length p.length)) := by
  refine spec_outer t p ht hp p.length 0 _ (by omega) ?_
  have h0 := (Inv.zero (fun a => D t p a 0) t.length).set (Nat.zero_le _) (v := true) (D00 t p).symm
  refine ⟨h0.len, fun a ha => ?_, fun a ha => h0.high a (by omega)⟩
  cases a with
  | zero => exact h0.low 0 (by omega)
  | succ a => rw [h0.high (a + 1) (by omega)]; exact (D10 t p a).symm

/-! ### the program's table -/
theorem impl_inner (m : List Bool) (i : Nat) (hi : i < t.length) (hm : Inv (fun b => D t p i b) p.length (p.length + 1) m) (r : Bool)
    (next : ∀ x, Inv (fun b => D t p (i + 1) b) p.length (p.length + 1) x → ∃ k, impl_like.l2 k (p.map part) x t (t.length : Int) ((i + 1 : Nat) : Int) = some r) :
    ∀ (n j : Nat) (x : List Bool), j + n = p.length → Inv (fun b => D t p (i + 1) b) p.length (j + 1) x → ∃ k, impl_like.l3 k (p.map part) m (t.getD i 0) x t (t.length : Int) (i : Int) (p.map part) (p.length : Int) (j : Int) = some r := by
  intro n
  induction n with
  | zero =>
    intro j x hj hx
    obtain rfl : j = p.length := by omega
    obtain ⟨k, hk⟩ := next x hx
    refine ⟨k + 1, ?_⟩
    simp only [impl_like.l3]
    rw [if_neg (by omega), up1 i (by omega)]
    exact hk
  | succ n ih =>
    intro j x hj hx
    have hl := hx.len
    have hml := hm.len
    have hlen := len_part p
    have hmj := hm.low j (by omega)
    have hmj1 := hm.low (j + 1) (by omega)
    have hxj := hx.low j (by omega)
    have go : ∀ v, v = D t p (i + 1) (j + 1) → ∃ k, impl_like.l3 k (p.map part) m (t.getD i 0) (x.set (j + 1) v) t (t.length : Int) (i : Int) (p.map part) (p.length : Int) ((j + 1 : Nat) : Int) = some r :=
      fun v hv => ih (j + 1) _ (by omega) (hx.set (by omega) hv)
    have hd := D11 t p i j
    by_cases h1 : p.getD j 0 = -1
    · rw [if_pos h1] at hd
      cases hb : D t p (i + 1) j with
      | true =>
        obtain ⟨k, hk⟩ := go true (by rw [hd, hb, Bool.or_true])
        refine ⟨k + 1, ?_⟩
        simp only [impl_like.l3]
        rw [if_pos (by omega), if_pos (by omega), if_pos (by omega), rd_part p j (by omega), if_pos ((part37 _).mpr h1), if_pos (by omega), rdOf_getD, hxj, if_pos hb, up1 j (by omega), if_pos (by omega), if_pos (by omega), Int.toNat_natCast]
        exact hk
      | false =>
        obtain ⟨k, hk⟩ := go (m.getD (j + 1) false) (by rw [hd, hb, Bool.or_false]; exact hmj1)
        refine ⟨k + 1, ?_⟩
        simp only [impl_like.l3]
        rw [if_pos (by omega), if_pos (by omega), if_pos (by omega), rd_part p j (by omega), if_pos ((part37 _).mpr h1), if_pos (by omega), rdOf_getD, hxj, if_neg (by rw [hb]; decide), up1 j (by omega), if_pos (by omega), if_pos (by omega), if_pos (by omega), Int.toNat_natCast, rdOf_getD]
        exact hk
    · rw [if_neg h1] at hd
      have n37 : ¬ (part (p.getD j 0)).f1 = 37 := fun e => h1 ((part37 _).mp e)
      by_cases h2 : p.getD j 0 = -2
      · rw [if_pos h2] at hd
        obtain ⟨k, hk⟩ := go (m.getD j false) (by rw [hd]; exact hmj)
        refine ⟨k + 1, ?_⟩
        simp only [impl_like.l3]
        rw [if_pos (by omega), if_pos (by omega), if_pos (by omega), rd_part p j (by omega), if_neg n37, if_pos ((part95 _ h1).mpr h2), if_pos (by omega), up1 j (by omega), if_pos (by omega), if_pos (by omega), Int.toNat_natCast, rdOf_getD]
        exact hk
      · rw [if_neg h2] at hd
        have n95 : ¬ (part (p.getD j 0)).f1 = 95 := fun e => h2 ((part95 _ h1).mp e)
        cases hb : D t p i j with
        | true =>
          obtain ⟨k, hk⟩ := go (p.getD j 0 == t.getD i 0) (by rw [hd, hb, Bool.true_and])
          refine ⟨k + 1, ?_⟩
          simp only [impl_like.l3]
          rw [if_pos (by omega), if_pos (by omega), if_pos (by omega), rd_part p j (by omega), if_neg n37, if_neg n95, if_pos (by omega), rdOf_getD, hmj, if_pos hb, up1 j (by omega), if_pos (by omega), if_pos (by omega), Int.toNat_natCast, part_r _ h1 h2]
          exact hk
        | false =>
          obtain ⟨k, hk⟩ := go false (by rw [hd, hb, Bool.false_and])
          refine ⟨k + 1, ?_⟩
          simp only [impl_like.l3]
          rw [if_pos (by omega), if_pos (by omega), if_pos (by omega), rd_part p j (by omega), if_neg n37, if_neg n95, if_pos (by omega), rdOf_getD, hmj, if_neg (by rw [hb]; decide), up1 j (by omega), if_pos (by omega), if_pos (by omega), Int.toNat_natCast]
          exact hk

theorem impl_outer : ∀ (n i : Nat) (x : List Bool), i + n = t.length → Inv (fun b => D t p i b) p.length (p.length + 1) x → ∃ k, impl_like.l2 k (p.map part) x t (t.length : Int) (i : Int) = some (D t p t.length p.length) := by
  intro n
  have hlen := len_part p
  induction n with
  | zero =>
    intro i x hi hx
    obtain rfl : i = t.length := by omega
    refine ⟨1, ?_⟩
    have hl := hx.len
    simp only [impl_like.l2]
    rw [if_neg (by omega), if_pos (by omega), if_pos (by omega), hlen, rdOf_getD, hx.low _ (by omega)]
  | succ n ih =>
    intro i x hi hx
    obtain ⟨k, hk⟩ := impl_inner t p ht hp x i (by omega) hx _ (fun y hy => ih (i + 1) y (by omega) hy) p.length 0 (List.replicate (p.length + 1) false) (by omega) ((Inv.zero _ p.length).skip (D10 t p i))
    refine ⟨k + 1, ?_⟩
    simp only [impl_like.l2]
    rw [if_pos (by omega), if_pos (by omega), if_pos (by omega), hlen, up1 p.length (by omega), if_pos (by omega), Int.toNat_natCast, if_pos (by omega), rd_getD]
    exact hk

theorem impl_begin : ∀ (n j : Nat) (x : List Bool), j + n = p.length → Inv (fun b => D t p 0 b) p.length (j + 1) x → ∃ k, impl_like.l1 k t (p.map part) x (p.map part) (p.length : Int) (j : Int) = some (D t p t.length p.length) := by
  intro n
  have hlen := len_part p
  induction n with
  | zero =>
    intro j x hj hx
    obtain rfl : j = p.length := by omega
    obtain ⟨k, hk⟩ := impl_outer t p ht hp t.length 0 x (by omega) hx
    refine ⟨k + 1, ?_⟩
    simp only [impl_like.l1]
    rw [if_neg (by omega)]
    exact hk
  | succ n ih =>
    intro j x hj hx
    have hl := hx.len
    have hxj := hx.low j (by omega)
    have go : ∀ v, v = D t p 0 (j + 1) → ∃ k, impl_like.l1 k t (p.map part) (x.set (j + 1) v) (p.map part) (p.length : Int) ((j + 1 : Nat) : Int) = some (D t p t.length p.length) :=
      fun v hv => ih (j + 1) _ (by omega) (hx.set (by omega) hv)
    have hd := D01 t p j
    cases hb : D t p 0 j with
    | true =>
      have e37 : ((part (p.getD j 0)).f1 == 37) = (p.getD j 0 == -1) := by
        by_cases h1 : p.getD j 0 = -1
        · rw [beq_iff_eq.mpr h1, beq_iff_eq.mpr ((part37 _).mpr h1)]
        · rw [beq_eq_false_iff_ne.mpr h1, beq_eq_false_iff_ne.mpr (fun e => h1 ((part37 _).mp e))]
      obtain ⟨k, hk⟩ := go ((part (p.getD j 0)).f1 == 37) (by rw [hd, hb, Bool.true_and, e37])
      refine ⟨k + 1, ?_⟩
      simp only [impl_like.l1]
      rw [if_pos (by omega), if_pos (by omega), if_pos (by omega), if_pos (by omega), rdOf_getD, hxj, if_pos hb, up1 j (by omega), if_pos (by omega), if_pos (by omega), Int.toNat_natCast, rd_part p j (by omega)]
      exact hk
    | false =>
      obtain ⟨k, hk⟩ := go false (by rw [hd, hb, Bool.false_and])
      refine ⟨k + 1, ?_⟩
      simp only [impl_like.l1]
      rw [if_pos (by omega), if_pos (by omega), if_pos (by omega), if_pos (by omega), rdOf_getD, hxj, if_neg (by rw [hb]; decide), up1 j (by omega), if_pos (by omega), if_pos (by omega), Int.toNat_natCast]
      exact hk
end

theorem impl_parts (t l : List Int) (ht : t.length ≤ 1048576) (hl : l.length ≤ 1048576) (hc : ∀ x ∈ l, 0 ≤ x) (q : List Int) (hq : q = pat l l.length 0) :
    ∀ (n i : Nat) (acc : List Int), i ≤ l.length → l.length ≤ i + n → acc.length ≤ i → acc ++ pat l n i = q → ∃ k, impl_like.l0 k t l (acc.map part) (i : Int) = some (D t q t.length q.length) := by
  have hql : q.length ≤ 1048576 := by rw [hq]; exact Nat.le_trans (pat_len _ _ _) hl
  have fin : ∃ k, impl_like.l1 k t (q.map part) ((List.replicate (q.length + 1) false).set 0 true) (q.map part) (q.length : Int) 0 = some (D t q t.length q.length) :=
    impl_begin t q ht hql q.length 0 _ (by omega) ((Inv.zero _ q.length).set (Nat.zero_le _) (D00 t q).symm)
  have done : ∀ k, impl_like.l1 k t (q.map part) ((List.replicate (q.length + 1) false).set 0 true) (q.map part) (q.length : Int) 0 = some (D t q t.length q.length) →
      ∀ i : Nat, l.length ≤ i → impl_like.l0 (k + 1) t l (q.map part) (i : Int) = some (D t q t.length q.length) := by
    intro k hk i hi
    simp only [impl_like.l0]
    have hlen : ((q.map part).length : Int) = (q.length : Int) := by simp
    rw [if_neg (by omega), hlen, up1 q.length (by omega), if_pos (by omega), Int.toNat_natCast, if_pos (by omega), Option.bind_some, if_pos (by simp)]
    exact hk
  have memc : ∀ i : Nat, i < l.length → 0 ≤ l.getD i 0 := by
    intro i hi
    have : l.getD i 0 = l[i] := by simp [List.getD, hi]
    rw [this]; exact hc _ (List.getElem_mem hi)
  intro n
  induction n with
  | zero =>
    intro i acc hi hn ha e
    obtain ⟨k, hk⟩ := fin
    have : acc = q := by rw [← e]; simp [pat]
    rw [this]
    exact ⟨k + 1, done k hk i (by omega)⟩
  | succ n ih =>
    intro i acc hi hn ha e
    by_cases h : i < l.length
    · have hal : ((acc.map part).length) < 17592186044416 := by simp; omega
      have step : ∀ (x : Int) (y : S71), part x = y → acc ++ (x :: pat l n (i + 1)) = q → ∃ k, impl_like.l0 k t l (acc.map part ++ [y]) ((i + 1 : Nat) : Int) = some (D t q t.length q.length) := by
        intro x y hy e'
        obtain ⟨k, hk⟩ := ih (i + 1) (acc ++ [x]) (by omega) (by omega) (by simp; omega) (by rw [List.append_assoc]; exact e')
        rw [List.map_append, List.map_cons, List.map_nil, hy] at hk
        exact ⟨k, hk⟩
      unfold pat at e
      rw [if_pos h] at e
      by_cases h1 : l.getD i 0 = 37
      · rw [if_pos h1] at e
        obtain ⟨k, hk⟩ := step _ ⟨0, 37⟩ rfl e
        refine ⟨k + 1, ?_⟩
        simp only [impl_like.l0]
        rw [if_pos (by omega), if_pos (by omega), rd_getD, if_pos h1, if_pos hal, up1 i (by omega)]
        exact hk
      · rw [if_neg h1] at e
        by_cases h2 : l.getD i 0 = 95
        · rw [if_pos h2] at e
          obtain ⟨k, hk⟩ := step _ ⟨0, 95⟩ rfl e
          refine ⟨k + 1, ?_⟩
          simp only [impl_like.l0]
          rw [if_pos (by omega), if_pos (by omega), rd_getD, if_neg h1, if_pos h2, if_pos hal, up1 i (by omega)]
          exact hk
        · rw [if_neg h2] at e
          by_cases h3 : l.getD i 0 = 92
          · by_cases h4 : i + 1 < l.length
            · rw [if_pos ⟨h3, h4⟩] at e
              obtain ⟨k, hk⟩ := ih (i + 2) (acc ++ [l.getD (i + 1) 0]) (by omega) (by omega) (by simp; omega) (by rw [List.append_assoc]; exact e)
              rw [List.map_append, List.map_cons, List.map_nil, part_char _ (memc (i + 1) h4)] at hk
              refine ⟨k + 1, ?_⟩
              simp only [impl_like.l0]
              rw [if_pos (by omega), if_pos (by omega), rd_getD, if_neg h1, if_neg h2, if_pos h3, up1 i (by omega), if_pos (by omega), if_pos (by omega), if_pos hal, up1 (i + 1) (by omega), rd_getD]
              exact hk
            · rw [if_neg (by omega)] at e
              obtain ⟨k, hk⟩ := step _ _ (part_char _ (memc i h)) e
              refine ⟨k + 1, ?_⟩
              simp only [impl_like.l0]
              rw [if_pos (by omega), if_pos (by omega), rd_getD, if_neg h1, if_neg h2, if_pos h3, up1 i (by omega), if_neg (by omega), if_pos hal]
              exact hk
          · rw [if_neg (by omega)] at e
            obtain ⟨k, hk⟩ := step _ _ (part_char _ (memc i h)) e
            refine ⟨k + 1, ?_⟩
            simp only [impl_like.l0]
            rw [if_pos (by omega), if_pos (by omega), rd_getD, if_neg h1, if_neg h2, if_neg h3, if_pos hal, up1 i (by omega)]
            exact hk
    · obtain ⟨k, hk⟩ := fin
      have : acc = q := by
        rw [← e]; unfold pat; rw [if_neg h]; simp
      rw [this]
      exact ⟨k + 1, done k hk i (by omega)⟩

theorem impl_like_tells (t l : List Int) (ht : t.length ≤ 1048576) (hl : l.length ≤ 1048576) (hc : ∀ x ∈ l, 0 ≤ x) :
    ∃ k, impl_like.f k t l = some (D t (pat l l.length 0) t.length (pat l l.length 0).length) := by
  exact impl_parts t l ht hl hc _ rfl l.length 0 [] (by omega) (by omega) (by simp) rfl

/-! ### the two functions -/
theorem dup {α : Type} {e : Option α} (h : e.isSome = true) : ∃ v, e = some v ∧ e = some v := by
  cases e with
  | none => cases h
  | some v => exact ⟨v, rfl, rfl⟩

theorem value_both (a b : Int) (s : ByteArray) (hs : s.size ≤ 1048576) : ∃ k v, spec_ValueOK.f k a b s = some v ∧ impl_ValueOK.f a b s = some v := by
  obtain ⟨k, hk⟩ := chars_told s hs
  refine ⟨k, ?_⟩
  unfold spec_ValueOK.f impl_ValueOK.f
  by_cases h0 : a = 0
  · rw [if_pos h0, if_pos h0]
    by_cases hb : b = 0
    · rw [if_pos hb]; exact ⟨_, rfl, rfl⟩
    · rw [if_neg hb]; exact ⟨_, rfl, rfl⟩
  rw [if_neg h0, if_neg h0]
  by_cases h1 : a = 1
  · rw [if_pos h1, if_pos h1]; exact ⟨_, rfl, rfl⟩
  rw [if_neg h1, if_neg h1]
  by_cases h2 : a = 2
  · rw [if_pos h2, if_pos h2]
    by_cases hb : s.toList = []
    · by_cases hc : b ≥ -999999999999999999
      · simp only [if_pos hb, if_pos hc]; exact ⟨_, rfl, rfl⟩
      · simp only [if_pos hb, if_neg hc]; exact ⟨_, rfl, rfl⟩
    · simp only [if_neg hb]; exact ⟨_, rfl, rfl⟩
  rw [if_neg h2, if_neg h2]
  by_cases h3 : a = 3
  · rw [if_pos h3, if_pos h3]
    by_cases hb : b = 0
    · have e1 : utf8_ValidString.f s = some (validD s.data.toList) := by unfold utf8_ValidString.f; rw [if_pos (by omega)]
      have e2 : utf8_RuneCountInString.f s = some (runeCount s : Int) := by unfold utf8_RuneCountInString.f; rw [if_pos (by omega)]
      rw [if_pos hb, if_pos hb, hk, e1, e2]
      simp only [Option.bind_some]
      have hr := runeCount_runes s
      by_cases hz : (s.size : Int) > 1020
      · rw [if_pos hz]
        have h4 := runes_bytes _ s.data.toList (Nat.le_refl _)
        have hl : s.data.toList.length = s.size := by simp
        cases hv : validD s.data.toList
        · exact ⟨_, rfl, rfl⟩
        · refine ⟨false, rfl, ?_⟩
          rw [if_pos rfl, decide_eq_false (by omega)]
      · rw [if_neg hz]
        cases hv : validD s.data.toList
        · exact ⟨_, rfl, rfl⟩
        · refine ⟨_, rfl, ?_⟩
          simp only [if_true, hr]
    · rw [if_neg hb, if_neg hb]; exact ⟨_, rfl, rfl⟩
  rw [if_neg h3, if_neg h3]
  refine dup ?_
  by_cases h4 : a = 4
  · by_cases hb : s.toList = [] <;> by_cases hc : b = 0 <;> simp [h4, hb, hc]
  · by_cases h5 : a = 5 <;> by_cases hb : s.toList = [] <;> by_cases hc : b ≥ -719162 <;> simp [h4, h5, hb, hc]

theorem value_text (b : Int) (s : ByteArray) (hs : s.size ≤ 1048576) (h : impl_ValueOK.f 3 b s = some true) : validD s.data.toList = true := by
  unfold impl_ValueOK.f at h
  have e1 : utf8_ValidString.f s = some (validD s.data.toList) := by unfold utf8_ValidString.f; rw [if_pos (by omega)]
  rw [if_neg (by decide), if_neg (by decide), if_neg (by decide), if_pos rfl, e1, Option.bind_some] at h
  by_cases hb : b = 0
  · rw [if_pos hb] at h
    cases hv : validD s.data.toList with
    | true => rfl
    | false => rw [hv] at h; cases h
  · rw [if_neg hb] at h; cases h

/-- With enough rounds, it is told for good. -/
def Ev {α : Type} (f : Nat → Option α) (r : α) : Prop := ∃ k, ∀ m, k ≤ m → f m = some r
theorem Ev.of {α : Type} {f : Nat → Option α} {r : α} (hm : ∀ k, LeO (f k) (f (k + 1))) (h : ∃ k, f k = some r) : Ev f r := by
  obtain ⟨k, hk⟩ := h
  exact ⟨k, fun m hle => mono_le hm hle hk⟩

theorem runes_small (s : ByteArray) (hs : s.size ≤ 1048576) : (runes s.data.toList).length ≤ 1048576 := by
  have h1 := runes_len s.data.toList
  have h2 : s.data.toList.length = s.size := by simp
  omega

/-- What is handed back once both values are sound. -/
def answer (a c : Int) (s q : ByteArray) : Int × Int × ByteArray × Int :=
  if ¬ ((a = 3 ∨ a = 0) ∧ (c = 3 ∨ c = 0)) then (0, 0, ⟨#[]⟩, 10) else if a = 0 ∨ c = 0 then (0, 0, ⟨#[]⟩, 0) else
    tell (D (runes s.data.toList) (pat (runes q.data.toList) (runes q.data.toList).length 0) (runes s.data.toList).length (pat (runes q.data.toList) (runes q.data.toList).length 0).length)

theorem answer_text {a c : Int} (s q : ByteArray) (h3 : a = 3) (h4 : c = 3) : answer a c s q =
    tell (D (runes s.data.toList) (pat (runes q.data.toList) (runes q.data.toList).length 0) (runes s.data.toList).length (pat (runes q.data.toList) (runes q.data.toList).length 0).length) := by
  subst h3 h4
  unfold answer
  rw [if_neg (by decide), if_neg (by decide)]

theorem j4_step (a b c d : Int) (s q : ByteArray) (k : Nat) (A B P : List Int) (h1 : spec_l01Chars.f k s = some (A, true)) (h2 : spec_l01Chars.f k q = some (B, true)) (h3 : spec_l01Pattern.f k B = some P) (hl : A.length ≤ 1048576) :
    spec_Like.j4 (k + 1) false a b s c d q = spec_Like.l0 k A ((List.replicate (A.length + 1) false).set 0 true) P (P.length : Int) 0 := by
  simp only [spec_Like.j4]
  rw [if_neg (by decide), h1, Option.bind_some, h2, Option.bind_some]
  show (if 0 ≤ wrap64 ((A.length : Int) + 1) then _ else _) = _
  rw [up1 _ (by omega), if_pos (by omega), Int.toNat_natCast, if_pos (by omega), Option.bind_some, if_pos (by simp), h3, Option.bind_some]
  rfl

section
variable (a b c d : Int) (s q : ByteArray) (hs : s.size ≤ 1048576) (hq : q.size ≤ 1048576) (vs : a = 3 → validD s.data.toList = true) (vq : c = 3 → validD q.data.toList = true)
include hs hq vs vq

theorem spec_main (h3 : a = 3) (h4 : c = 3) : Ev (fun k => spec_Like.j4 k false a b s c d q) (answer a c s q) := by
  obtain ⟨k1, e1⟩ : ∃ k, ∀ m, k ≤ m → spec_l01Chars.f m s = _ := Ev.of (spec_l01Chars.mono s) (chars_told s hs)
  obtain ⟨k2, e2⟩ : ∃ k, ∀ m, k ≤ m → spec_l01Chars.f m q = _ := Ev.of (spec_l01Chars.mono q) (chars_told q hq)
  have l1 := runes_small s hs
  have l2 := runes_small q hq
  obtain ⟨k3, e3⟩ : ∃ k, ∀ m, k ≤ m → spec_l01Pattern.f m (runes q.data.toList) = _ := Ev.of (spec_l01Pattern.mono (runes q.data.toList)) ⟨_, spec_pattern _ l2⟩
  have lp := pat_len (runes q.data.toList) (runes q.data.toList).length 0
  obtain ⟨k4, e4⟩ := spec_table (runes s.data.toList) (pat (runes q.data.toList) (runes q.data.toList).length 0) l1 (by omega)
  have e4' : Ev (fun k => spec_Like.l0 k (runes s.data.toList) ((List.replicate ((runes s.data.toList).length + 1) false).set 0 true) (pat (runes q.data.toList) (runes q.data.toList).length 0) ((pat (runes q.data.toList) (runes q.data.toList).length 0).length : Int) 0) _ :=
    Ev.of (fun k => (spec_Like.mono_l k).2.2.2.2.2.1 _ _ _ _ _) ⟨k4, e4⟩
  obtain ⟨k4, e4⟩ := e4'
  refine ⟨k1 + k2 + k3 + k4 + 1, fun m hm => ?_⟩
  obtain ⟨m, rfl⟩ : ∃ z, m = z + 1 := ⟨m - 1, by omega⟩
  have f1 : spec_l01Chars.f m s = some (runes s.data.toList, true) := by
    have h := e1 m (by omega)
    simp only [vs h3, if_true] at h
    exact h
  have f2 : spec_l01Chars.f m q = some (runes q.data.toList, true) := by
    have h := e2 m (by omega)
    simp only [vq h4, if_true] at h
    exact h
  have e5 := e4 m (by omega)
  show spec_Like.j4 (m + 1) false a b s c d q = _
  rw [answer_text s q h3 h4, j4_step a b c d s q m _ _ _ f1 f2 (e3 m (by omega)) l1]
  exact e5

theorem spec_rest : Ev (fun k => spec_Like.j0 k false a b s c d q) (answer a c s q) := by
  have fin : ∀ (o t z : Bool), o = decide (a = 3 ∨ a = 0) → t = decide (c = 3 ∨ c = 0) → z = decide (a = 0 ∨ c = 0) →
      Ev (fun k => spec_Like.j1 k o a b s c d q) (answer a c s q) := by
    intro o t z ho ht hz
    have two : ∀ k, spec_Like.j1 (k + 1) o a b s c d q = spec_Like.j2 k o t a b s c d q := by
      intro k
      simp only [spec_Like.j1]
      by_cases h : c = 3
      · rw [if_pos h, ht]; simp [h]
      · rw [if_neg h, ht]; simp only [h, false_or]; rfl
    have three : ∀ k, spec_Like.j2 (k + 1) o t a b s c d q = spec_Like.j3 k (!(o && t)) a b s c d q := by
      intro k
      simp only [spec_Like.j2]
      cases o <;> cases t <;> rfl
    cases hot : (o && t) with
    | false =>
      refine ⟨3, fun m hm => ?_⟩
      obtain ⟨m, rfl⟩ : ∃ z, m = z + 3 := ⟨m - 3, by omega⟩
      show spec_Like.j1 ((m + 1 + 1) + 1) o a b s c d q = _
      rw [two, three, hot]
      simp only [spec_Like.j3]
      rw [if_pos (by rfl)]
      unfold answer
      rw [if_pos]
      intro ⟨x, y⟩
      rw [ho, ht, decide_eq_true x, decide_eq_true y] at hot
      cases hot
    | true =>
      rw [Bool.and_eq_true] at hot
      have x : a = 3 ∨ a = 0 := of_decide_eq_true (ho ▸ hot.1)
      have y : c = 3 ∨ c = 0 := of_decide_eq_true (ht ▸ hot.2)
      have four : ∀ k, spec_Like.j3 (k + 1) (!(o && t)) a b s c d q = spec_Like.j4 k z a b s c d q := by
        intro k
        simp only [spec_Like.j3]
        rw [hot.1, hot.2, if_neg (by decide)]
        by_cases h : a = 0
        · rw [if_pos h, hz]; simp [h]
        · rw [if_neg h, hz]; simp only [h, false_or]; rfl
      cases hzz : z with
      | true =>
        refine ⟨4, fun m hm => ?_⟩
        obtain ⟨m, rfl⟩ : ∃ z, m = z + 4 := ⟨m - 4, by omega⟩
        show spec_Like.j1 ((m + 1 + 1 + 1) + 1) o a b s c d q = _
        rw [two, three, four, hzz]
        simp only [spec_Like.j4]
        rw [if_pos trivial]
        unfold answer
        rw [if_neg (not_not_intro ⟨x, y⟩), if_pos (of_decide_eq_true (hz ▸ hzz))]
      | false =>
        have nz : ¬ (a = 0 ∨ c = 0) := of_decide_eq_false (hz ▸ hzz)
        obtain ⟨k, hk⟩ := spec_main a b c d s q hs hq vs vq (by omega) (by omega)
        refine ⟨k + 4, fun m hm => ?_⟩
        obtain ⟨m, rfl⟩ : ∃ z, m = z + 3 := ⟨m - 3, by omega⟩
        show spec_Like.j1 ((m + 1 + 1) + 1) o a b s c d q = _
        rw [two, three, four, hzz]
        exact hk m (by omega)
  have one : ∀ k, spec_Like.j0 (k + 1) false a b s c d q = spec_Like.j1 k (decide (a = 3 ∨ a = 0)) a b s c d q := by
    intro k
    simp only [spec_Like.j0]
    rw [if_neg (by decide)]
    by_cases h : a = 3
    · rw [if_pos h]; simp [h]
    · rw [if_neg h]; simp only [h, false_or]; rfl
  obtain ⟨k, hk⟩ := fin _ _ _ rfl rfl rfl
  refine ⟨k + 1, fun m hm => ?_⟩
  obtain ⟨m, rfl⟩ : ∃ z, m = z + 1 := ⟨m - 1, by omega⟩
  show spec_Like.j0 (m + 1) false a b s c d q = _
  rw [one]
  exact hk m (by omega)

omit vs vq in
theorem impl_main (h3 : a = 3) (h4 : c = 3) : Ev (fun k => impl_Like.j2 k false a b s c d q) (answer a c s q) := by
  have l1 := runes_small s hs
  have l2 := runes_small q hq
  obtain ⟨k, e⟩ : ∃ k, ∀ m, k ≤ m → impl_like.f m (runes s.data.toList) (runes q.data.toList) = _ := Ev.of (impl_like.mono (runes s.data.toList) (runes q.data.toList)) (impl_like_tells _ _ l1 l2 (runes_nonneg _))
  refine ⟨k + 1, fun m hm => ?_⟩
  obtain ⟨m, rfl⟩ : ∃ z, m = z + 1 := ⟨m - 1, by omega⟩
  simp only [impl_Like.j2]
  rw [if_neg (by decide), if_pos (by omega), if_pos (by omega), runesL_runes, runesL_runes, e m (by omega), Option.bind_some, answer_text s q h3 h4]
  unfold impl_truth.f tell
  cases D (runes s.data.toList) (pat (runes q.data.toList) (runes q.data.toList).length 0) (runes s.data.toList).length (pat (runes q.data.toList) (runes q.data.toList).length 0).length <;> rfl

omit vs vq in
theorem impl_rest : Ev (fun k => impl_Like.j0 k false a b s c d q) (answer a c s q) := by
  have r0 : (rd_T25 [(⟨a, b, s⟩ : S25), ⟨c, d, q⟩] 0).f0 = a := rfl
  have r1 : (rd_T25 [(⟨a, b, s⟩ : S25), ⟨c, d, q⟩] 1).f0 = c := rfl
  have w0 : wrap64 (0 + 1) = 1 := by unfold wrap64; omega
  have w1 : wrap64 (1 + 1) = 2 := by unfold wrap64; omega
  have s0 : ∀ k, impl_Like.j0 (k + 1) false a b s c d q = impl_Like.l0 k [(⟨a, b, s⟩ : S25), ⟨c, d, q⟩] 2 0 a b s c d q := fun k => rfl
  have s1 : ∀ k, impl_Like.l0 (k + 1) [(⟨a, b, s⟩ : S25), ⟨c, d, q⟩] 2 0 a b s c d q = if a = 3 ∨ a = 0 then impl_Like.l0 k [(⟨a, b, s⟩ : S25), ⟨c, d, q⟩] 2 1 a b s c d q else some (0, 0, ⟨#[]⟩, 10) := by
    intro k
    simp only [impl_Like.l0]
    rw [if_pos (by decide), if_pos (by decide), if_pos (by simp), r0, w0]
    by_cases h : a = 3
    · rw [if_pos h, if_pos (.inl h)]
    · by_cases h' : a = 0
      · rw [if_neg h, if_pos h', if_pos (.inr h')]
      · rw [if_neg h, if_neg h', if_neg (by omega)]
  have s2 : ∀ k, impl_Like.l0 (k + 1) [(⟨a, b, s⟩ : S25), ⟨c, d, q⟩] 2 1 a b s c d q = if c = 3 ∨ c = 0 then impl_Like.l0 k [(⟨a, b, s⟩ : S25), ⟨c, d, q⟩] 2 2 a b s c d q else some (0, 0, ⟨#[]⟩, 10) := by
    intro k
    simp only [impl_Like.l0]
    rw [if_pos (by decide), if_pos (by decide), if_pos (by simp), r1, w1]
    by_cases h : c = 3
    · rw [if_pos h, if_pos (.inl h)]
    · by_cases h' : c = 0
      · rw [if_neg h, if_pos h', if_pos (.inr h')]
      · rw [if_neg h, if_neg h', if_neg (by omega)]
  have s3 : ∀ k, impl_Like.l0 (k + 1) [(⟨a, b, s⟩ : S25), ⟨c, d, q⟩] 2 2 a b s c d q = impl_Like.j2 k (decide (a = 0 ∨ c = 0)) a b s c d q := by
    intro k
    simp only [impl_Like.l0]
    rw [if_neg (by decide)]
    by_cases h : a = 0
    · rw [if_pos h]; simp [h]
    · rw [if_neg h]; simp only [h, false_or]; rfl
  by_cases x : a = 3 ∨ a = 0
  · by_cases y : c = 3 ∨ c = 0
    · by_cases z : a = 0 ∨ c = 0
      · refine ⟨5, fun m hm => ?_⟩
        obtain ⟨m, rfl⟩ : ∃ z, m = z + 5 := ⟨m - 5, by omega⟩
        show impl_Like.j0 ((m + 1 + 1 + 1 + 1) + 1) false a b s c d q = _
        rw [s0, s1, if_pos x, s2, if_pos y, s3, decide_eq_true z]
        simp only [impl_Like.j2]
        rw [if_pos trivial]
        unfold answer
        rw [if_neg (not_not_intro ⟨x, y⟩), if_pos z]
      · obtain ⟨k, hk⟩ := impl_main a b c d s q hs hq (by omega) (by omega)
        refine ⟨k + 4, fun m hm => ?_⟩
        obtain ⟨m, rfl⟩ : ∃ z, m = z + 4 := ⟨m - 4, by omega⟩
        show impl_Like.j0 ((m + 1 + 1 + 1) + 1) false a b s c d q = _
        rw [s0, s1, if_pos x, s2, if_pos y, s3, decide_eq_false z]
        exact hk m (by omega)
    · refine ⟨3, fun m hm => ?_⟩
      obtain ⟨m, rfl⟩ : ∃ z, m = z + 3 := ⟨m - 3, by omega⟩
      show impl_Like.j0 ((m + 1 + 1) + 1) false a b s c d q = _
      rw [s0, s1, if_pos x, s2, if_neg y]
      unfold answer
      rw [if_pos (fun h => y h.2)]
  · refine ⟨2, fun m hm => ?_⟩
    obtain ⟨m, rfl⟩ : ∃ z, m = z + 2 := ⟨m - 2, by omega⟩
    show impl_Like.j0 ((m + 1) + 1) false a b s c d q = _
    rw [s0, s1, if_neg x]
    unfold answer
    rw [if_pos (fun h => x h.1)]
end

theorem like_both (a b c d : Int) (s q : ByteArray) (hs : s.size ≤ 1048576) (hq : q.size ≤ 1048576) : ∃ k r, spec_Like.f k a b s c d q = some r ∧ impl_Like.f k a b s c d q = some r := by
  obtain ⟨k1, v, e1, i1⟩ := value_both a b s hs
  obtain ⟨k2, u, e2, i2⟩ := value_both c d q hq
  have bad : ∀ k, spec_Like.j0 (k + 1) true a b s c d q = some (0, 0, ⟨#[]⟩, 1) := fun k => rfl
  have bad' : ∀ k, impl_Like.j0 (k + 1) true a b s c d q = some (0, 0, ⟨#[]⟩, 1) := fun k => rfl
  have g1 : ∀ m, k1 ≤ m → spec_ValueOK.f m a b s = some v := fun m h => mono_le (spec_ValueOK.mono a b s) h e1
  have g2 : ∀ m, k2 ≤ m → spec_ValueOK.f m c d q = some u := fun m h => mono_le (spec_ValueOK.mono c d q) h e2
  cases v with
  | false =>
    refine ⟨k1 + 1, (0, 0, ⟨#[]⟩, 1), ?_, ?_⟩
    · unfold spec_Like.f
      rw [g1 _ (by omega), Option.bind_some, if_neg (by decide)]
      exact bad _
    · unfold impl_Like.f
      rw [i1, Option.bind_some, if_neg (by decide)]
      exact bad' _
  | true =>
    cases u with
    | false =>
      refine ⟨k1 + k2 + 1, (0, 0, ⟨#[]⟩, 1), ?_, ?_⟩
      · unfold spec_Like.f
        rw [g1 _ (by omega), Option.bind_some, if_pos rfl, g2 _ (by omega), Option.bind_some]
        exact bad _
      · unfold impl_Like.f
        rw [i1, Option.bind_some, if_pos rfl, i2, Option.bind_some]
        exact bad' _
    | true =>
      have vs : a = 3 → validD s.data.toList = true := fun h => by subst h; exact value_text b s hs i1
      have vq : c = 3 → validD q.data.toList = true := fun h => by subst h; exact value_text d q hq i2
      obtain ⟨k3, e3⟩ := spec_rest a b c d s q hs hq vs vq
      obtain ⟨k4, e4⟩ := impl_rest a b c d s q hs hq
      refine ⟨k1 + k2 + k3 + k4, answer a c s q, ?_, ?_⟩
      · unfold spec_Like.f
        rw [g1 _ (by omega), Option.bind_some, if_pos rfl, g2 _ (by omega), Option.bind_some]
        exact e3 _ (by omega)
      · unfold impl_Like.f
        rw [i1, Option.bind_some, if_pos rfl, i2, Option.bind_some]
        exact e4 _ (by omega)

theorem FnExactLike (a b : Int) (s : ByteArray) (c d : Int) (q : ByteArray) (hs : s.size ≤ 140737488351232) (hq : q.size ≤ 140737488351232) : ∃ k, laws_FnExactLike.f k a b s c d q = some true := by
  unfold laws_FnExactLike.f laws_szValue.f laws_toValue.f
  have e : wrap64 (1048576 - (s.size : Int)) = 1048576 - (s.size : Int) := w64 _ (by omega) (by omega)
  rw [e]
  by_cases h : 1048576 - (s.size : Int) < 0
  · refine ⟨0, ?_⟩
    rw [if_pos h]
    rfl
  · have e' : wrap64 (1048576 - (s.size : Int) - (q.size : Int)) = 1048576 - (s.size : Int) - (q.size : Int) := w64 _ (by omega) (by omega)
    by_cases h' : 1048576 - (s.size : Int) - (q.size : Int) < 0
    · refine ⟨0, ?_⟩
      rw [if_neg h, Option.bind_some, if_neg h, e', if_pos h']
      rfl
    · obtain ⟨k, ⟨r1, r2, r3, r4⟩, e1, e2⟩ := like_both a b c d s q (by omega) (by omega)
      refine ⟨k, ?_⟩
      rw [if_neg h, Option.bind_some, if_neg h, e', if_neg h', Option.bind_some, if_neg h']
      simp only [Option.bind_some]
      rw [e1, e2]
      simp [laws_eqValue.f]

end Go.Proofs.YtaicfmmgmblmiaaDoor.Pure
