/- Proved: for every number and every list of kinds the program's CallKind and the reference's CallKind answer alike, and the list is left as it was. No conditions but the bounds of memory. -/
import Derived.Test.YtimngliodeefjaaQFnExactCallKindx5
namespace Go.Proofs.Ytimngliodeefjaa.Pure
open Go.RowKit Go.Proofs.Ytimngliodeefjaa.QFnExactCallKind Go.Proofs.YtimngliodeefjaaW.PrintWords Go.Proofs.YtimngliodeefjaaW.PrintLast Go.Proofs.YtimngliodeefjaaExt Go.Proofs.Ytimngliodeefjaa.Ck

/-- More rounds tell the same. -/
theorem mono_le {α : Type} {f : Nat → Option α} (h : ∀ k, LeO (f k) (f (k + 1))) {k m : Nat} (hk : k ≤ m) {r : α} (e : f k = some r) : f m = some r := by
  obtain ⟨d, rfl⟩ : ∃ d, m = k + d := ⟨m - k, by omega⟩
  clear hk
  induction d with
  | zero => exact e
  | succ d ih => exact h _ _ ih

theorem rd_getD (l : List Int) (i : Nat) : rd l (i : Int) = l.getD i 0 := by unfold rd; rw [Int.toNat_natCast]

theorem take_set {α : Type} (d : α) (x y : List α) (i : Nat) (hi : i < y.length) (hl : x.length = y.length) (h : x.take i = y.take i) : (x.set i (y.getD i d)).take (i + 1) = y.take (i + 1) := by
  have e1 : (x.set i (y.getD i d)).take (i + 1) = x.take i ++ [y.getD i d] := by
    rw [List.take_succ_eq_append_getElem (by simp; omega)]
    congr 1
    · rw [List.take_set_of_le (Nat.le_refl _)]
    · simp
  rw [e1, h, List.take_succ_eq_append_getElem hi]
  congr 1
  simp [List.getD, hi]

theorem toIntS_l0 (x0 : List Int) (hx : x0.length ≤ 35184372088832) (n : Nat) : ∀ (k i : Nat) (x3 : List Int), x0.length - i ≤ n → n < k → i ≤ x0.length → x3.length = x0.length → x3.take i = x0.take i → laws_toIntS.l0 k x0 x3 (i : Int) = some x0 := by
  induction n with
  | zero =>
    intro k i x3 hn hk hi hl ht
    obtain ⟨k, rfl⟩ : ∃ q, k = q + 1 := ⟨k - 1, by omega⟩
    simp only [laws_toIntS.l0]
    rw [if_neg (by omega)]
    have : i = x0.length := by omega
    subst this
    rw [List.take_of_length_le (by omega), List.take_of_length_le (Nat.le_refl _)] at ht
    rw [ht]
  | succ n ih =>
    intro k i x3 hn hk hi hl ht
    obtain ⟨k, rfl⟩ : ∃ q, k = q + 1 := ⟨k - 1, by omega⟩
    by_cases hlt : i < x0.length
    · simp only [laws_toIntS.l0]
      rw [if_pos (by omega), if_pos (by omega), if_pos (by omega), rd_getD, Int.toNat_natCast, show wrap64 ((i : Int) + 1) = ((i + 1 : Nat) : Int) by unfold wrap64; omega]
      exact ih k (i + 1) _ (by omega) (by omega) (by omega) (by rw [List.length_set]; exact hl) (take_set 0 x3 x0 i hlt hl ht)
    · simp only [laws_toIntS.l0]
      rw [if_neg (by omega)]
      have : i = x0.length := by omega
      subst this
      rw [List.take_of_length_le (by omega), List.take_of_length_le (Nat.le_refl _)] at ht
      rw [ht]

theorem toIntS_told (k : Nat) (l : List Int) (hl : l.length ≤ 35184372088832) (hk : l.length < k) : laws_toIntS.f k l = some l := by
  unfold laws_toIntS.f
  rw [if_pos (by omega), if_pos (by simpa using hl)]
  exact toIntS_l0 l hl l.length k 0 _ (by omega) hk (by omega) (by simp) (by simp)

theorem eqIntS_l0 (x : List Int) (hx : x.length ≤ 35184372088832) (n : Nat) : ∀ (k i : Nat), x.length - i ≤ n → n < k → laws_eqIntS.l0 k x x (i : Int) = some true := by
  induction n with
  | zero =>
    intro k i hn hk
    obtain ⟨k, rfl⟩ : ∃ q, k = q + 1 := ⟨k - 1, by omega⟩
    simp only [laws_eqIntS.l0]
    rw [if_neg (by omega)]
  | succ n ih =>
    intro k i hn hk
    obtain ⟨k, rfl⟩ : ∃ q, k = q + 1 := ⟨k - 1, by omega⟩
    by_cases hlt : i < x.length
    · simp only [laws_eqIntS.l0]
      rw [if_pos (by omega), if_pos (by omega), if_pos (by omega), show wrap64 ((i : Int) + 1) = ((i + 1 : Nat) : Int) by unfold wrap64; omega]
      simp only [if_true]
      exact ih k (i + 1) (by omega) (by omega)
    · simp only [laws_eqIntS.l0]
      rw [if_neg (by omega)]

theorem eqIntS_told (k : Nat) (l : List Int) (hl : l.length ≤ 35184372088832) (hk : l.length < k) : laws_eqIntS.f k l l = some true := by
  unfold laws_eqIntS.f
  rw [if_pos rfl]
  exact eqIntS_l0 l hl l.length k 0 (by omega) hk

theorem specKind_eq (k : Int) : spec_l01IsKind.f k = some (kindB k) := by
  unfold spec_l01IsKind.f kindB
  by_cases h1 : k ≥ 0 <;> simp [h1]

theorem fits_eq (a b : Int) : spec_l01Fits.f a b = some (decide (a = 0 ∨ a = b)) := by
  unfold spec_l01Fits.f
  by_cases h : a = b
  · simp [h]
  · rw [if_neg h]
    by_cases h0 : a = 0 <;> simp [h0, h]

theorem opk_fin : ∀ x : Fin 6, ∀ y : Fin 6, ∃ r : Fin 7, spec_OpKind.f 40 7 (x.val : Int) (y.val : Int) = some ((r.val : Int) - 1) ∧ (decide ((r.val : Int) - 1 ≥ 0) = goB (x.val : Int) (y.val : Int)) := by decide +kernel

theorem opk (k : Nat) (hk : 40 ≤ k) (a b : Int) (ha : kindB a = true) (hb : kindB b = true) : ∃ r : Int, spec_OpKind.f k 7 a b = some r ∧ (decide (r ≥ 0) = goB a b) := by
  have h1 := of_decide_eq_true ha
  have h2 := of_decide_eq_true hb
  obtain ⟨r, e1, e2⟩ := opk_fin ⟨a.toNat, by omega⟩ ⟨b.toNat, by omega⟩
  simp only [Int.toNat_of_nonneg h1.1, Int.toNat_of_nonneg h2.1] at e1 e2
  exact ⟨_, mono_le (fun k => spec_OpKind.mono 7 a b k) hk e1, e2⟩

theorem fits1_eq (l : List Int) (x : Int) : fitsB l [x] = true ↔ l.length = 1 ∧ (l.getD 0 0 = 0 ∨ l.getD 0 0 = x) := by
  unfold fitsB
  constructor
  · intro h
    simp only [Bool.and_eq_true, decide_eq_true_eq, List.length_singleton, List.all_eq_true, List.mem_range] at h
    refine ⟨h.1, ?_⟩
    have := h.2 0 (by omega)
    simpa [fit1] using this
  · intro h
    simp only [Bool.and_eq_true, decide_eq_true_eq, List.length_singleton, List.all_eq_true, List.mem_range]
    refine ⟨h.1, fun j hj => ?_⟩
    have : j = 0 := by omega
    subst this
    simpa [fit1] using h.2

theorem fits3_eq (l : List Int) (x y z : Int) : fitsB l [x, y, z] = true ↔ l.length = 3 ∧ (l.getD 0 0 = 0 ∨ l.getD 0 0 = x) ∧ (l.getD 1 0 = 0 ∨ l.getD 1 0 = y) ∧ (l.getD 2 0 = 0 ∨ l.getD 2 0 = z) := by
  unfold fitsB
  constructor
  · intro h
    simp only [Bool.and_eq_true, decide_eq_true_eq, List.length_cons, List.length_nil, List.all_eq_true, List.mem_range] at h
    refine ⟨h.1, ?_, ?_, ?_⟩
    · have := h.2 0 (by omega); simpa [fit1] using this
    · have := h.2 1 (by omega); simpa [fit1] using this
    · have := h.2 2 (by omega); simpa [fit1] using this
  · intro h
    simp only [Bool.and_eq_true, decide_eq_true_eq, List.length_cons, List.length_nil, List.all_eq_true, List.mem_range]
    refine ⟨h.1, fun j hj => ?_⟩
    have : j = 0 ∨ j = 1 ∨ j = 2 := by omega
    rcases this with rfl | rfl | rfl
    · simpa [fit1] using h.2.1
    · simpa [fit1] using h.2.2.1
    · simpa [fit1] using h.2.2.2

/-- What stands behind the loop. -/
theorem ck_tail (k : Nat) (hk : 50 ≤ k) (fn : Int) (l : List Int) (hv : ∀ j, j < l.length → kindB (l.getD j 0) = true) (i : Nat) (hi : l.length ≤ i) :
    spec_CallKind.l0 (k + 1) fn l l (l.length : Int) (i : Int) = some (ckPlain fn l) := by
  obtain ⟨k, rfl⟩ : ∃ q, k = q + 4 := ⟨k - 4, by omega⟩
  have r0 : rd l 0 = l.getD 0 0 := rfl
  have r1 : rd l 1 = l.getD 1 0 := rfl
  have r2 : rd l 2 = l.getD 2 0 := rfl
  simp only [spec_CallKind.l0]
  rw [if_neg (by omega)]
  unfold ckPlain
  rw [r0]
  by_cases f1 : fn = 1
  · rw [if_pos f1, if_pos f1]
    by_cases hl : l.length = 1
    · rw [if_pos (by omega), if_pos (by omega), fits_eq]
      by_cases h1 : l.getD 0 0 = 1
      · rw [if_pos h1, if_pos ⟨hl, .inl (decide_eq_true (.inl h1))⟩]
      · rw [if_neg h1]
        simp only [Option.bind_some, decide_eq_true_eq]
        by_cases h2 : l.getD 0 0 = 0 ∨ l.getD 0 0 = 2
        · rw [if_pos h2, if_pos ⟨hl, by rcases h2 with h2 | h2; (· exact .inr h2); (· exact .inl (decide_eq_true (.inr h2)))⟩]
        · rw [if_neg h2, if_neg]
          rintro ⟨_, h | h⟩
          · simp only [numB, decide_eq_true_eq] at h; omega
          · exact h2 (.inl h)
    · rw [if_neg (by omega), if_neg (by rintro ⟨h, _⟩; exact hl h)]
  rw [if_neg f1, if_neg f1]
  have one : ∀ x y : Int, (if (l.length : Int) = 1 then (if 0 < (l.length : Int) then ((spec_l01Fits.f (l.getD 0 0) x).bind fun t => (if t = true then (some y) else (some (-1)))) else (none)) else (some (-1))) = some (if fitsB l [x] = true then y else -1) := by
    intro x y
    by_cases hl : l.length = 1
    · rw [if_pos (by omega), if_pos (by omega), fits_eq]
      simp only [Option.bind_some, decide_eq_true_eq]
      by_cases h2 : l.getD 0 0 = 0 ∨ l.getD 0 0 = x
      · rw [if_pos h2, if_pos ((fits1_eq l x).2 ⟨hl, h2⟩)]
      · rw [if_neg h2, if_neg (fun h => h2 ((fits1_eq l x).1 h).2)]
    · rw [if_neg (by omega), if_neg (fun h => hl ((fits1_eq l x).1 h).1)]
  by_cases f2 : fn = 2
  · rw [if_pos f2, if_pos f2]; exact one 3 1
  rw [if_neg f2, if_neg f2]
  have j1t : ∀ (b : Bool), b = true → spec_CallKind.j1 (k + 4) l (l.length : Int) fn b = some (if fitsB l [3] = true then 3 else -1) := by
    intro b hb
    simp only [spec_CallKind.j1]
    rw [if_pos hb, r0]; exact one 3 3
  by_cases f3 : fn = 3
  · rw [if_pos f3, if_pos (.inl f3)]; exact j1t _ (by simp [f3])
  by_cases f4 : fn = 4
  · rw [if_neg f3, if_pos f4, if_pos (.inr (.inl f4))]; exact j1t _ (by simp [f4])
  rw [if_neg f3, if_neg f4]
  by_cases f11 : fn = 11
  · rw [if_pos (.inr (.inr f11))]; exact j1t _ (by simp [f11])
  rw [if_neg (by omega : ¬ (fn = 3 ∨ fn = 4 ∨ fn = 11)), show (fn == 11) = false from beq_eq_false_iff_ne.mpr f11]
  simp only [spec_CallKind.j1, Bool.false_eq_true, if_false]
  rw [r0, r1, r2]
  by_cases f5 : fn = 5
  · rw [if_pos f5, if_pos f5]
    by_cases hl : l.length = 3
    · rw [if_pos (by omega), if_pos (by omega), fits_eq]
      simp only [Option.bind_some, decide_eq_true_eq]
      by_cases h0 : l.getD 0 0 = 0 ∨ l.getD 0 0 = 3
      · rw [if_pos h0, if_pos (by omega), fits_eq]
        simp only [Option.bind_some, decide_eq_true_eq]
        by_cases h1 : l.getD 1 0 = 0 ∨ l.getD 1 0 = 1
        · rw [if_pos h1, if_pos (by omega), fits_eq]
          simp only [Option.bind_some, decide_eq_true_eq]
          by_cases h2 : l.getD 2 0 = 0 ∨ l.getD 2 0 = 1
          · rw [if_pos h2, if_pos ((fits3_eq l 3 1 1).2 ⟨hl, h0, h1, h2⟩)]
          · rw [if_neg h2, if_neg (fun h => h2 ((fits3_eq l 3 1 1).1 h).2.2.2)]
        · rw [if_neg h1, if_neg (fun h => h1 ((fits3_eq l 3 1 1).1 h).2.2.1)]
      · rw [if_neg h0, if_neg (fun h => h0 ((fits3_eq l 3 1 1).1 h).2.1)]
    · rw [if_neg (by omega), if_neg (fun h => hl ((fits3_eq l 3 1 1).1 h).1)]
  rw [if_neg f5, if_neg f5]
  by_cases f6 : fn = 6
  · rw [if_pos f6, if_pos f6]
    by_cases hl : l.length = 2
    · rw [if_pos (by omega), if_pos (by omega), if_pos (by omega)]
      obtain ⟨r, e1, e2⟩ := opk (k + 3) (by omega) (l.getD 0 0) (l.getD 1 0) (hv 0 (by omega)) (hv 1 (by omega))
      rw [e1]
      simp only [Option.bind_some]
      by_cases h : r ≥ 0
      · rw [if_pos h, if_pos ⟨hl, by rw [← e2]; exact decide_eq_true h⟩]
      · rw [if_neg h, if_neg]
        rintro ⟨_, h2⟩
        rw [← e2] at h2
        exact h (of_decide_eq_true h2)
    · rw [if_neg (by omega), if_neg (by rintro ⟨h, _⟩; exact hl h)]
  rw [if_neg f6, if_neg f6]
  have j2t : ∀ (b : Bool), b = true → spec_CallKind.j2 (k + 3) l (l.length : Int) fn b = some (if fitsB l [5] = true then 1 else -1) := by
    intro b hb
    simp only [spec_CallKind.j2]
    rw [if_pos hb, r0]; exact one 5 1
  by_cases f7 : fn = 7
  · rw [if_pos f7, if_pos (.inl f7)]; exact j2t _ (by simp [f7])
  by_cases f8 : fn = 8
  · rw [if_neg f7, if_pos f8, if_pos (.inr (.inl f8))]; exact j2t _ (by simp [f8])
  rw [if_neg f7, if_neg f8]
  by_cases f9 : fn = 9
  · rw [if_pos (.inr (.inr f9))]; exact j2t _ (by simp [f9])
  rw [if_neg (by omega : ¬ (fn = 7 ∨ fn = 8 ∨ fn = 9)), show (fn == 9) = false from beq_eq_false_iff_ne.mpr f9]
  simp only [spec_CallKind.j2, Bool.false_eq_true, if_false]
  rw [r0]
  by_cases f10 : fn = 10
  · rw [if_pos f10, if_pos f10]; exact one 2 2
  rw [if_neg f10, if_neg f10]
  have j3t : ∀ (b : Bool), b = true → spec_CallKind.j3 (k + 2) l (l.length : Int) b = some (if l.length = 2 ∧ (l.getD 0 0 = l.getD 1 0 ∨ l.getD 0 0 = 0 ∨ l.getD 1 0 = 0) then (if l.getD 0 0 < l.getD 1 0 then l.getD 1 0 else l.getD 0 0) else -1) := by
    intro b hb
    simp only [spec_CallKind.j3]
    rw [if_pos hb, r0, r1]
    by_cases hl : l.length = 2
    · have k0 := of_decide_eq_true (hv 0 (by omega))
      have k1 := of_decide_eq_true (hv 1 (by omega))
      rw [if_pos (by omega), if_pos (by omega), if_pos (by omega), fits_eq]
      simp only [Option.bind_some, spec_CallKind.j4, decide_eq_true_eq]
      rw [r0, r1]
      by_cases h0 : l.getD 1 0 = 0 ∨ l.getD 1 0 = l.getD 0 0
      · rw [if_pos h0, if_pos (by omega), if_pos ⟨hl, by omega⟩, if_neg (by omega)]
      · rw [if_neg h0, if_pos (by omega), if_pos (by omega)]
        by_cases h1 : l.getD 0 0 = 0
        · rw [if_pos h1, if_pos (by omega), if_pos ⟨hl, by omega⟩, if_pos (by omega)]
        · rw [if_neg h1, if_neg (by omega)]
    · rw [if_neg (by omega)]
      simp only [spec_CallKind.j4, Bool.false_eq_true, if_false]
      rw [if_neg (by omega), if_neg (by omega)]
  by_cases f12 : fn = 12
  · rw [if_pos f12, if_pos (.inl f12)]; exact j3t _ (by simp [f12])
  rw [if_neg f12]
  by_cases f13 : fn = 13
  · rw [if_pos (.inr f13)]; exact j3t _ (by simp [f13])
  · rw [if_neg (by omega), show (fn == 13) = false from beq_eq_false_iff_ne.mpr f13]
    simp only [spec_CallKind.j3, Bool.false_eq_true, if_false]

theorem ck_loop (fn : Int) (l : List Int) (n : Nat) : ∀ (k i : Nat), l.length - i ≤ n → n + 60 < k → l.length ≤ 8 → (∀ j, j < i → j < l.length → kindB (l.getD j 0) = true) →
    spec_CallKind.l0 k fn l l (l.length : Int) (i : Int) = some (ckAll fn l) := by
  induction n with
  | zero =>
    intro k i hn hk h8 hv
    obtain ⟨k, rfl⟩ : ∃ q, k = q + 1 := ⟨k - 1, by omega⟩
    have hall : ∀ j, j < l.length → kindB (l.getD j 0) = true := fun j hj => hv j (by omega) hj
    rw [ck_tail k (by omega) fn l hall i (by omega)]
    unfold ckAll
    rw [if_pos (List.all_eq_true.2 fun j hj => hall j (List.mem_range.1 hj))]
  | succ n ih =>
    intro k i hn hk h8 hv
    obtain ⟨k, rfl⟩ : ∃ q, k = q + 1 := ⟨k - 1, by omega⟩
    by_cases hlt : i < l.length
    · simp only [spec_CallKind.l0]
      rw [if_pos (by omega), if_pos (by omega), if_pos (by omega), specKind_eq, rd_getD, show wrap64 ((i : Int) + 1) = ((i + 1 : Nat) : Int) by unfold wrap64; omega]
      simp only [Option.bind_some]
      cases hq : kindB (l.getD i 0) with
      | true =>
        rw [if_pos rfl]
        refine ih k (i + 1) (by omega) (by omega) h8 (fun j hj hl => ?_)
        by_cases e : j = i
        · subst e; exact hq
        · exact hv j (by omega) hl
      | false =>
        rw [if_neg (by decide)]
        unfold ckAll
        rw [if_neg]
        intro h
        have := List.all_eq_true.1 h i (List.mem_range.2 hlt)
        rw [hq] at this
        cases this
    · have hall : ∀ j, j < l.length → kindB (l.getD j 0) = true := fun j hj => hv j (by omega) hj
      rw [ck_tail k (by omega) fn l hall i (by omega)]
      unfold ckAll
      rw [if_pos (List.all_eq_true.2 fun j hj => hall j (List.mem_range.1 hj))]

theorem spec_told (k : Nat) (hk : 80 ≤ k) (fn : Int) (l : List Int) : spec_CallKind.f k fn l = some (ckAll fn l) := by
  unfold spec_CallKind.f
  by_cases h8 : l.length ≤ 8
  · rw [if_neg (by omega)]
    exact ck_loop fn l l.length k 0 (by omega) (by omega) h8 (fun j hj _ => absurd hj (Nat.not_lt_zero _))
  · rw [if_pos (by omega)]
    have hp : ckPlain fn l = -1 := by
      have n1 : ∀ x, ¬ fitsB l [x] = true := fun x h => by have := ((fits1_eq l x).1 h).1; omega
      have n3 : ¬ fitsB l [3, 1, 1] = true := fun h => by have := ((fits3_eq l 3 1 1).1 h).1; omega
      unfold ckPlain
      have a1 : ¬ (l.length = 1 ∧ (numB (l.getD 0 0) = true ∨ l.getD 0 0 = 0)) := by rintro ⟨h, _⟩; omega
      have a2 : ¬ (l.length = 2 ∧ goB (l.getD 0 0) (l.getD 1 0) = true) := by rintro ⟨h, _⟩; omega
      have a3 : ¬ (l.length = 2 ∧ (l.getD 0 0 = l.getD 1 0 ∨ l.getD 0 0 = 0 ∨ l.getD 1 0 = 0)) := by rintro ⟨h, _⟩; omega
      rw [if_neg a1, if_neg (n1 3), if_neg (n1 3), if_neg n3, if_neg a2, if_neg (n1 5), if_neg (n1 2), if_neg a3]
      simp only [ite_self]
    unfold ckAll
    rw [hp]
    simp only [ite_self]

theorem FnExactCallKind : laws_FnExactCallKind.Pure := by
  intro fn l _ hm h8 _
  refine ⟨l.length + 100, ?_⟩
  unfold laws_FnExactCallKind.f
  by_cases hb : (l.length : Int) > 1048576
  · rw [if_pos hb]
  · rw [if_neg hb, toIntS_told _ l (by omega) (by omega)]
    simp only [Option.bind_some]
    rw [spec_told _ (by omega)]
    simp only [Option.bind_some]
    have e : impl_CallKind.f fn l = some (ckAll fn l) := by unfold impl_CallKind.f; rw [if_pos (by omega)]
    rw [e]
    simp only [Option.bind_some, if_true]
    rw [eqIntS_told _ l (by omega) (by omega)]
    rfl

end Go.Proofs.Ytimngliodeefjaa.Pure
