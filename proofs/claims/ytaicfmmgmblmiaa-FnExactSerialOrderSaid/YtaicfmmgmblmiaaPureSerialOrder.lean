/- Proved: for every history (numbers as Go holds them, lists that fit into memory) the program's SerialOrder and the reference's SerialOrder answer alike, and the law's checks of what is kept and written hold. No other conditions. -/
import Derived.Test.YtaicfmmgmblmiaaSoLaw
import Derived.Laws.BitsAllLaws
set_option linter.unusedVariables false
namespace Go.Proofs.Ytaicfmmgmblmiaa.PureSerialOrder
open Go.RowKit Go.Proofs.Ytaicfmmgmblmiaa.QFnExactSerialOrder Go.Proofs.YtaicfmmgmblmiaaW.PrintWords Go.Proofs.YtaicfmmgmblmiaaW.PrintLast

theorem mono_le {α : Type} {f : Nat → Option α} (h : ∀ k, LeO (f k) (f (k + 1))) {k m : Nat} (hk : k ≤ m) {r : α} (e : f k = some r) : f m = some r := by
  obtain ⟨d, rfl⟩ : ∃ d, m = k + d := ⟨m - k, by omega⟩
  clear hk
  induction d with
  | zero => exact e
  | succ d ih => exact h _ _ ih
/-- With enough rounds, it is told for good. -/
def Ev {α : Type} (f : Nat → Option α) (r : α) : Prop := ∃ k, ∀ m, k ≤ m → f m = some r
theorem Ev.of {α : Type} {f : Nat → Option α} {r : α} (hm : ∀ k, LeO (f k) (f (k + 1))) (h : ∃ k, f k = some r) : Ev f r := by
  obtain ⟨k, hk⟩ := h
  exact ⟨k, fun m hle => mono_le hm hle hk⟩
theorem Ev.succ {α : Type} {f g : Nat → Option α} {r : α} (h : Ev g r) (e : ∀ k, f (k + 1) = g k) : Ev f r := by
  obtain ⟨k, hk⟩ := h
  refine ⟨k + 1, fun m hm => ?_⟩
  obtain ⟨m, rfl⟩ : ∃ z, m = z + 1 := ⟨m - 1, by omega⟩
  rw [e]; exact hk m (by omega)
theorem Ev.bind {α β : Type} {f : Nat → Option α} {r : α} (h : Ev f r) {g : Nat → α → Option β} {s : β} (hg : Ev (fun k => g k r) s) : Ev (fun k => (f k).bind (g k)) s := by
  obtain ⟨k, hk⟩ := h
  obtain ⟨l, hl⟩ := hg
  refine ⟨k + l, fun m hm => ?_⟩
  show (f m).bind (g m) = some s
  rw [hk m (by omega)]
  exact hl m (by omega)
theorem Ev.now {α : Type} (r : α) : Ev (fun _ => some r) r := ⟨0, fun _ _ => rfl⟩
theorem Ev.eq {α : Type} {f g : Nat → Option α} {r : α} (h : Ev g r) (e : ∀ k, f k = g k) : Ev f r := by
  obtain ⟨k, hk⟩ := h
  exact ⟨k, fun m hm => by rw [e]; exact hk m hm⟩
theorem rd_getD (l : List Int) (i : Nat) : rd l (i : Int) = l.getD i 0 := by unfold rd; rw [Int.toNat_natCast]
theorem rd56 (l : List S56) (i : Nat) : rd_T56 l (i : Int) = l.getD i z56 := by unfold rd_T56; rw [Int.toNat_natCast]
theorem rd54 (l : List S54) (i : Nat) : rd_T54 l (i : Int) = l.getD i z54 := by unfold rd_T54; rw [Int.toNat_natCast]
theorem up1 (i : Nat) (h : i ≤ 281474976710656) : wrap64 ((i : Int) + 1) = ((i + 1 : Nat) : Int) := by unfold wrap64; omega
theorem dn1 (i : Nat) (h : i ≤ 281474976710656) : wrap64 (((i + 1 : Nat) : Int) - 1) = (i : Int) := by unfold wrap64; omega

/-! ### the tables -/
def tabGo (l : List Int) : Nat → Nat → Bool
  | 0, _ => true
  | n + 1, i => if l.getD i 0 < 0 then false else if l.getD i 0 ≥ 32 then false else if 0 < i ∧ l.getD i 0 ≤ l.getD (i - 1) 0 then false else tabGo l n (i + 1)
def tab (l : List Int) : Bool := tabGo l l.length 0
theorem spec_tab_loop (l : List Int) (hl : l.length ≤ 281474976710656) : ∀ (n i : Nat), i + n = l.length → Ev (fun k => spec_l15Tables.l0 k l l (l.length : Int) (i : Int)) (tabGo l n i) := by
  intro n
  induction n with
  | zero =>
    intro i hi
    exact Ev.succ (Ev.now _) (fun k => by simp only [spec_l15Tables.l0]; rw [if_neg (by omega)]; rfl)
  | succ n ih =>
    intro i hi
    have h := ih (i + 1) (by omega)
    unfold tabGo
    by_cases c0 : l.getD i 0 < 0
    · rw [if_pos c0]
      exact Ev.succ (Ev.now _) (fun k => by simp only [spec_l15Tables.l0]; rw [if_pos (by omega), if_pos (by omega), if_pos (by omega), rd_getD, if_pos c0])
    rw [if_neg c0]
    by_cases c1 : l.getD i 0 ≥ 32
    · rw [if_pos c1]
      exact Ev.succ (Ev.now _) (fun k => by simp only [spec_l15Tables.l0]; rw [if_pos (by omega), if_pos (by omega), if_pos (by omega), rd_getD, if_neg c0, if_pos c1])
    rw [if_neg c1]
    cases i with
    | zero =>
      rw [if_neg (by omega)]
      exact Ev.succ h (fun k => by simp only [spec_l15Tables.l0]; rw [if_pos (by omega), if_pos (by omega), if_pos (by omega), rd_getD, if_neg c0, if_neg c1, if_neg (by omega), up1 0 (by omega)])
    | succ i =>
      rw [Nat.add_sub_cancel]
      by_cases c2 : l.getD (i + 1) 0 ≤ l.getD i 0
      · rw [if_pos ⟨by omega, c2⟩]
        exact Ev.succ (Ev.now _) (fun k => by simp only [spec_l15Tables.l0]; rw [if_pos (by omega), if_pos (by omega), if_pos (by omega), rd_getD, if_neg c0, if_neg c1, if_pos (by omega), dn1 i (by omega), if_pos (by omega), if_pos (by omega), rd_getD, if_pos c2])
      · rw [if_neg (fun h => c2 h.2)]
        exact Ev.succ h (fun k => by simp only [spec_l15Tables.l0]; rw [if_pos (by omega), if_pos (by omega), if_pos (by omega), rd_getD, if_neg c0, if_neg c1, if_pos (by omega), dn1 i (by omega), if_pos (by omega), if_pos (by omega), rd_getD, if_neg c2, up1 (i + 1) (by omega)])
theorem impl_tab_loop (l : List Int) (hl : l.length ≤ 281474976710656) : ∀ (n i : Nat), i + n = l.length → Ev (fun k => impl_zHistory_1.l0 k l l (l.length : Int) (i : Int)) (tabGo l n i) := by
  intro n
  induction n with
  | zero =>
    intro i hi
    exact Ev.succ (Ev.now _) (fun k => by simp only [impl_zHistory_1.l0]; rw [if_neg (by omega)]; rfl)
  | succ n ih =>
    intro i hi
    have h := ih (i + 1) (by omega)
    unfold tabGo
    by_cases c0 : l.getD i 0 < 0
    · rw [if_pos c0]
      exact Ev.succ (Ev.now _) (fun k => by simp only [impl_zHistory_1.l0]; rw [if_pos (by omega), if_pos (by omega), if_pos (by omega), rd_getD, if_pos c0])
    rw [if_neg c0]
    by_cases c1 : l.getD i 0 ≥ 32
    · rw [if_pos c1]
      exact Ev.succ (Ev.now _) (fun k => by simp only [impl_zHistory_1.l0]; rw [if_pos (by omega), if_pos (by omega), if_pos (by omega), rd_getD, if_neg c0, if_pos c1])
    rw [if_neg c1]
    cases i with
    | zero =>
      rw [if_neg (by omega)]
      exact Ev.succ h (fun k => by simp only [impl_zHistory_1.l0]; rw [if_pos (by omega), if_pos (by omega), if_pos (by omega), rd_getD, if_neg c0, if_neg c1, if_neg (by omega), up1 0 (by omega)])
    | succ i =>
      rw [Nat.add_sub_cancel]
      by_cases c2 : l.getD (i + 1) 0 ≤ l.getD i 0
      · rw [if_pos ⟨by omega, c2⟩]
        exact Ev.succ (Ev.now _) (fun k => by simp only [impl_zHistory_1.l0]; rw [if_pos (by omega), if_pos (by omega), if_pos (by omega), rd_getD, if_neg c0, if_neg c1, if_pos (by omega), dn1 i (by omega), if_pos (by omega), if_pos (by omega), rd_getD, if_pos c2])
      · rw [if_neg (fun h => c2 h.2)]
        exact Ev.succ h (fun k => by simp only [impl_zHistory_1.l0]; rw [if_pos (by omega), if_pos (by omega), if_pos (by omega), rd_getD, if_neg c0, if_neg c1, if_pos (by omega), dn1 i (by omega), if_pos (by omega), if_pos (by omega), rd_getD, if_neg c2, up1 (i + 1) (by omega)])
theorem tab_short (l : List Int) : ∀ (n i : Nat), i + n = l.length → tabGo l n i = true → (i = 0 ∨ ((i : Int) - 1 ≤ l.getD (i - 1) 0 ∧ l.getD (i - 1) 0 < 32)) → l.length ≤ 32 := by
  intro n
  induction n with
  | zero => intro i hi h hp; rcases hp with hp | hp <;> omega
  | succ n ih =>
    intro i hi h hp
    unfold tabGo at h
    by_cases c0 : l.getD i 0 < 0
    · rw [if_pos c0] at h; cases h
    rw [if_neg c0] at h
    by_cases c1 : l.getD i 0 ≥ 32
    · rw [if_pos c1] at h; cases h
    rw [if_neg c1] at h
    by_cases c2 : 0 < i ∧ l.getD i 0 ≤ l.getD (i - 1) 0
    · rw [if_pos c2] at h; cases h
    rw [if_neg c2] at h
    refine ih (i + 1) (by omega) h (.inr ?_)
    rw [Nat.add_sub_cancel]
    rcases hp with hp | hp
    · subst hp; omega
    · by_cases h0 : i = 0
      · subst h0; omega
      · have : ¬ l.getD i 0 ≤ l.getD (i - 1) 0 := fun h9 => c2 ⟨by omega, h9⟩
        omega
theorem tab_range (l : List Int) : ∀ (n i : Nat), i + n = l.length → tabGo l n i = true → ∀ j, i ≤ j → j < l.length → 0 ≤ l.getD j 0 ∧ l.getD j 0 < 32 := by
  intro n
  induction n with
  | zero => intro i hi h j h1 h2; omega
  | succ n ih =>
    intro i hi h j h1 h2
    unfold tabGo at h
    by_cases c0 : l.getD i 0 < 0
    · rw [if_pos c0] at h; cases h
    rw [if_neg c0] at h
    by_cases c1 : l.getD i 0 ≥ 32
    · rw [if_pos c1] at h; cases h
    rw [if_neg c1] at h
    by_cases c2 : 0 < i ∧ l.getD i 0 ≤ l.getD (i - 1) 0
    · rw [if_pos c2] at h; cases h
    rw [if_neg c2] at h
    by_cases e : j = i
    · subst e; omega
    · exact ih (i + 1) (by omega) h j (by omega) h2
theorem spec_tab (l : List Int) (hl : l.length ≤ 281474976710656) : Ev (fun k => spec_l15Tables.f k l) (tab l) := by
  by_cases c : (l.length : Int) > 32
  · have : tab l = false := by
      cases h : tab l with
      | false => rfl
      | true => have := tab_short l l.length 0 (by omega) h (.inl rfl); omega
    rw [this]
    exact Ev.eq (Ev.now _) (fun k => by unfold spec_l15Tables.f; rw [if_pos c])
  · exact Ev.eq (spec_tab_loop l hl l.length 0 (by omega)) (fun k => by unfold spec_l15Tables.f; rw [if_neg c]; rfl)
theorem impl_tab (l : List Int) (hl : l.length ≤ 281474976710656) : Ev (fun k => impl_zHistory_1.f k l) (tab l) := impl_tab_loop l hl l.length 0 (by omega)
/-! ### the history -/
def Lens (l : List S56) : Prop := ∀ i, (l.getD i z56).f2.length ≤ 1048576 ∧ (l.getD i z56).f3.length ≤ 1048576
def Tabbed (x : S56) : Prop := tab x.f2 = true ∧ tab x.f3 = true
theorem hist_loop (l : List S56) (hn : Lens l) : ∀ (n i : Nat), ∃ b, Ev (fun k => histGo (spec_l15Tables.f k) l n i) b ∧ Ev (fun k => histGo (impl_zHistory_1.f k) l n i) b ∧ (b = true → ∀ j, i ≤ j → j < i + n → Tabbed (l.getD j z56)) := by
  intro n
  induction n with
  | zero => intro i; exact ⟨true, Ev.now _, Ev.now _, fun _ j h1 h2 => by omega⟩
  | succ n ih =>
    intro i
    have hX := hn i
    have e1 : ∀ T : List Int → Option Bool, histGo T l (n + 1) i = if (l.getD i z56).f0 < 0 then some false else if (l.getD i z56).f1 ≤ (l.getD i z56).f0 then some false
      else if 0 < i ∧ (rd_T56 l ((i : Int) - 1)).f1 ≥ (l.getD i z56).f1 then some false
      else (T (l.getD i z56).f2).bind fun a => if a = true then (T (l.getD i z56).f3).bind fun b => if b = true then histGo T l n (i + 1) else some false else some false := fun T => by
      rw [← rd56]; rfl
    generalize hx : l.getD i z56 = x at hX e1
    by_cases c0 : x.f0 < 0
    · exact ⟨false, Ev.eq (Ev.now _) (fun k => by rw [e1, if_pos c0]), Ev.eq (Ev.now _) (fun k => by rw [e1, if_pos c0]), fun h => by cases h⟩
    by_cases c1 : x.f1 ≤ x.f0
    · exact ⟨false, Ev.eq (Ev.now _) (fun k => by rw [e1, if_neg c0, if_pos c1]), Ev.eq (Ev.now _) (fun k => by rw [e1, if_neg c0, if_pos c1]), fun h => by cases h⟩
    by_cases c2 : 0 < i ∧ (rd_T56 l ((i : Int) - 1)).f1 ≥ x.f1
    · exact ⟨false, Ev.eq (Ev.now _) (fun k => by rw [e1, if_neg c0, if_neg c1, if_pos c2]), Ev.eq (Ev.now _) (fun k => by rw [e1, if_neg c0, if_neg c1, if_pos c2]), fun h => by cases h⟩
    have s2 := spec_tab x.f2 (by omega)
    have i2 := impl_tab x.f2 (by omega)
    have s3 := spec_tab x.f3 (by omega)
    have i3 := impl_tab x.f3 (by omega)
    have q1 : ∀ T : List Int → Option Bool, histGo T l (n + 1) i = (T x.f2).bind fun a => if a = true then (T x.f3).bind fun b => if b = true then histGo T l n (i + 1) else some false else some false := fun T => by
      rw [e1, if_neg c0, if_neg c1, if_neg c2]
    cases t2 : tab x.f2 with
    | false =>
      rw [t2] at s2 i2
      exact ⟨false, Ev.eq (Ev.bind (g := fun k a => if a = true then (spec_l15Tables.f k x.f3).bind fun b => if b = true then histGo (spec_l15Tables.f k) l n (i + 1) else some false else some false) s2 (Ev.now _)) (fun k => q1 _),
        Ev.eq (Ev.bind (g := fun k a => if a = true then (impl_zHistory_1.f k x.f3).bind fun b => if b = true then histGo (impl_zHistory_1.f k) l n (i + 1) else some false else some false) i2 (Ev.now _)) (fun k => q1 _), fun h => by cases h⟩
    | true =>
      rw [t2] at s2 i2
      cases t3 : tab x.f3 with
      | false =>
        rw [t3] at s3 i3
        exact ⟨false, Ev.eq (Ev.bind (g := fun k a => if a = true then (spec_l15Tables.f k x.f3).bind fun b => if b = true then histGo (spec_l15Tables.f k) l n (i + 1) else some false else some false) s2 (Ev.bind (g := fun k b => if b = true then histGo (spec_l15Tables.f k) l n (i + 1) else some false) s3 (Ev.now _))) (fun k => q1 _),
          Ev.eq (Ev.bind (g := fun k a => if a = true then (impl_zHistory_1.f k x.f3).bind fun b => if b = true then histGo (impl_zHistory_1.f k) l n (i + 1) else some false else some false) i2 (Ev.bind (g := fun k b => if b = true then histGo (impl_zHistory_1.f k) l n (i + 1) else some false) i3 (Ev.now _))) (fun k => q1 _), fun h => by cases h⟩
      | true =>
        rw [t3] at s3 i3
        obtain ⟨b, h1, h2, h3⟩ := ih (i + 1)
        refine ⟨b, Ev.eq (Ev.bind (g := fun k a => if a = true then (spec_l15Tables.f k x.f3).bind fun b => if b = true then histGo (spec_l15Tables.f k) l n (i + 1) else some false else some false) s2 (Ev.bind (g := fun k b => if b = true then histGo (spec_l15Tables.f k) l n (i + 1) else some false) s3 h1)) (fun k => q1 _),
          Ev.eq (Ev.bind (g := fun k a => if a = true then (impl_zHistory_1.f k x.f3).bind fun b => if b = true then histGo (impl_zHistory_1.f k) l n (i + 1) else some false else some false) i2 (Ev.bind (g := fun k b => if b = true then histGo (impl_zHistory_1.f k) l n (i + 1) else some false) i3 h2)) (fun k => q1 _), fun hb j hj1 hj2 => ?_⟩
        by_cases e : j = i
        · subst e; rw [hx]; exact ⟨t2, t3⟩
        · exact h3 hb j (by omega) (by omega)
theorem hist_told (l : List S56) (hn : Lens l) : ∃ b, Ev (fun k => spec_l15HistoryOK.f k l) b ∧ Ev (fun k => impl_zHistory.f k l) b ∧ (b = true → l.length ≤ 1000 ∧ ∀ j, j < l.length → Tabbed (l.getD j z56)) := by
  by_cases c : (l.length : Int) > 1000
  · exact ⟨false, Ev.eq (Ev.now _) (fun k => by unfold spec_l15HistoryOK.f hist; rw [if_pos c]), Ev.eq (Ev.now _) (fun k => by unfold impl_zHistory.f hist; rw [if_pos c]), fun h => by cases h⟩
  · obtain ⟨b, h1, h2, h3⟩ := hist_loop l hn l.length 0
    exact ⟨b, Ev.eq h1 (fun k => by unfold spec_l15HistoryOK.f hist; rw [if_neg c]), Ev.eq h2 (fun k => by unfold impl_zHistory.f hist; rw [if_neg c]), fun h => ⟨by omega, fun j hj => h3 h j (by omega) (by omega)⟩⟩
/-! ### who leads -/
def meet (a b : List Int) : Bool := a.any fun x => b.any fun y => x == y
theorem meet_inner (a b : List Int) (hb : b.length ≤ 1048576) (x : Int) (xs : List Int) (i : Int) (n : Int) : ∀ (m j : Nat) (r : Bool), j + m = b.length → Ev (fun k => spec_l15Meet.l0 k b xs n (wrap64 (i + 1))) r →
    Ev (fun k => spec_l15Meet.l1 k b x xs n i b (b.length : Int) (j : Int)) (((b.drop j).any fun y => x == y) || r) := by
  intro m
  induction m with
  | zero =>
    intro j r hj h
    rw [List.drop_of_length_le (by omega)]
    exact Ev.succ h (fun k => by simp only [spec_l15Meet.l1]; rw [if_neg (by omega)])
  | succ m ih =>
    intro j r hj h
    have hlt : j < b.length := by omega
    have e : b.drop j = b.getD j 0 :: b.drop (j + 1) := by
      rw [List.drop_eq_getElem_cons hlt]; simp [List.getD, hlt]
    rw [e, List.any_cons]
    by_cases c : x = b.getD j 0
    · rw [show (x == b.getD j 0) = true from beq_iff_eq.mpr c, Bool.true_or, Bool.true_or]
      exact Ev.succ (Ev.now _) (fun k => by simp only [spec_l15Meet.l1]; rw [if_pos (by omega), if_pos (by omega), if_pos (by omega), rd_getD, if_pos c])
    · rw [show (x == b.getD j 0) = false from beq_eq_false_iff_ne.mpr c, Bool.false_or]
      exact Ev.succ (ih (j + 1) r (by omega) h) (fun k => by simp only [spec_l15Meet.l1]; rw [if_pos (by omega), if_pos (by omega), if_pos (by omega), rd_getD, if_neg c, up1 j (by omega)])
theorem meet_outer (a b : List Int) (ha : a.length ≤ 1048576) (hb : b.length ≤ 1048576) : ∀ (m i : Nat), i + m = a.length → Ev (fun k => spec_l15Meet.l0 k b a (a.length : Int) (i : Int)) (meet (a.drop i) b) := by
  intro m
  induction m with
  | zero =>
    intro i hi
    rw [List.drop_of_length_le (by omega)]
    exact Ev.succ (Ev.now _) (fun k => by simp only [spec_l15Meet.l0]; rw [if_neg (by omega)]; rfl)
  | succ m ih =>
    intro i hi
    have hlt : i < a.length := by omega
    have e : a.drop i = a.getD i 0 :: a.drop (i + 1) := by
      rw [List.drop_eq_getElem_cons hlt]; simp [List.getD, hlt]
    have h := meet_inner a b hb (a.getD i 0) a (i : Int) (a.length : Int) b.length 0 _ (by omega) (by rw [up1 i (by omega)]; exact ih (i + 1) (by omega))
    rw [e]
    show Ev _ ((_ : Bool) || _)
    rw [List.drop_zero] at h
    exact Ev.succ h (fun k => by simp only [spec_l15Meet.l0]; rw [if_pos (by omega), if_pos (by omega), if_pos (by omega), rd_getD]; rfl)
/-- Does a lead to b? -/
def LD (a b : S56) : Bool := decide (a.f0 < b.f1) && (decide (b.f0 < a.f1) && meet a.f2 b.f3)
theorem spec_leads (a b : S56) (ha : a.f2.length ≤ 1048576) (hb : b.f3.length ≤ 1048576) : Ev (fun k => spec_l15Leads.f k a.f0 a.f1 a.f2 a.f3 b.f0 b.f1 b.f2 b.f3) (LD a b) := by
  unfold LD
  by_cases c0 : a.f0 < b.f1
  · by_cases c1 : b.f0 < a.f1
    · rw [decide_eq_true c0, decide_eq_true c1, Bool.true_and, Bool.true_and]
      have h := meet_outer a.f2 b.f3 ha hb a.f2.length 0 (by omega)
      rw [List.drop_zero] at h
      exact Ev.eq (Ev.bind (g := fun k t => some t) h (Ev.now _)) (fun k => by unfold spec_l15Leads.f; rw [if_pos c0, if_pos c1]; rfl)
    · rw [decide_eq_true c0, decide_eq_false c1, Bool.true_and, Bool.false_and]
      exact Ev.eq (Ev.now _) (fun k => by unfold spec_l15Leads.f; rw [if_pos c0, if_neg c1])
  · rw [decide_eq_false c0, Bool.false_and]
    exact Ev.eq (Ev.now _) (fun k => by unfold spec_l15Leads.f; rw [if_neg c0])
/-- The bits of a list of tables. -/
def mask : List Int → Nat → Nat
  | [], a => a
  | x :: l, a => mask l (a ||| 2 ^ x.toNat)
theorem mask_bit : ∀ (l : List Int) (a i : Nat), (∀ x, x ∈ l → 0 ≤ x) → (mask l a).testBit i = (a.testBit i || l.any fun x => x == (i : Int))
  | [], a, i, _ => by simp [mask]
  | x :: l, a, i, h => by
    have hx := h x (List.mem_cons_self ..)
    rw [mask, mask_bit l _ i (fun y hy => h y (List.mem_cons_of_mem _ hy)), Nat.testBit_or, Nat.testBit_two_pow, List.any_cons, Bool.or_assoc]
    congr 2
    rw [Bool.eq_iff_iff]; simp; omega
theorem mask_lt : ∀ (l : List Int) (a : Nat), (∀ x, x ∈ l → 0 ≤ x ∧ x < 32) → a < 2 ^ 32 → mask l a < 2 ^ 32
  | [], a, _, h => h
  | x :: l, a, h, ha => mask_lt l _ (fun y hy => h y (List.mem_cons_of_mem _ hy)) (Nat.or_lt_two_pow ha (Nat.pow_lt_pow_right (by decide) (by have := h x (List.mem_cons_self ..); omega)))
theorem shl_one (x : Int) (h0 : 0 ≤ x) (h1 : x < 32) : shl .u32 1 x = ((2 ^ x.toNat : Nat) : Int) := by
  obtain ⟨n, rfl⟩ := Int.eq_ofNat_of_zero_le h0
  have : ∀ m : Fin 32, shl .u32 1 (m.val : Int) = ((2 ^ m.val : Nat) : Int) := by decide +kernel
  exact this ⟨n, by omega⟩
theorem bits_loop (l : List Int) (hl : l.length ≤ 1048576) (hr : ∀ x, x ∈ l → 0 ≤ x ∧ x < 32) : ∀ (m i a : Nat), i + m = l.length → a < 2 ^ 32 → Ev (fun k => impl_zBits.l0 k (a : Int) l (l.length : Int) (i : Int)) ((mask (l.drop i) a : Nat) : Int) := by
  intro m
  induction m with
  | zero =>
    intro i a hi ha
    rw [List.drop_of_length_le (by omega)]
    exact Ev.succ (Ev.now _) (fun k => by simp only [impl_zBits.l0]; rw [if_neg (by omega)]; rfl)
  | succ m ih =>
    intro i a hi ha
    have hlt : i < l.length := by omega
    have e : l.drop i = l.getD i 0 :: l.drop (i + 1) := by
      rw [List.drop_eq_getElem_cons hlt]; simp [List.getD, hlt]
    have hx := hr (l.getD i 0) (by simp [List.getD, hlt])
    have hp : 2 ^ (l.getD i 0).toNat < 2 ^ 32 := Nat.pow_lt_pow_right (by decide) (by omega)
    rw [e, mask]
    exact Ev.succ (ih (i + 1) _ (by omega) (Nat.or_lt_two_pow ha hp)) (fun k => by
      simp only [impl_zBits.l0]
      rw [if_pos (by omega), if_pos (by omega), if_pos (by omega), rd_getD, if_pos hx.1, shl_one _ hx.1 hx.2, u32_or_nat _ _ (by omega) (by omega), up1 i (by omega)])
theorem bits_told (l : List Int) (hl : l.length ≤ 1048576) (hr : ∀ x, x ∈ l → 0 ≤ x ∧ x < 32) : Ev (fun k => impl_zBits.f k l) ((mask l 0 : Nat) : Int) := by
  have h := bits_loop l hl hr l.length 0 0 (by omega) (by decide)
  rw [List.drop_zero] at h
  exact h
theorem meet_mask (a b : List Int) (ha : ∀ x, x ∈ a → 0 ≤ x ∧ x < 32) (hb : ∀ x, x ∈ b → 0 ≤ x ∧ x < 32) : (((mask a 0 &&& mask b 0 : Nat) : Int) != 0) = meet a b := by
  rw [Bool.eq_iff_iff, bne_iff_ne]
  constructor
  · intro h
    have h2 : mask a 0 &&& mask b 0 ≠ 0 := by omega
    obtain ⟨i, hi⟩ := Nat.exists_testBit_of_ne_zero h2
    rw [Nat.testBit_and, mask_bit a 0 i (fun x hx => (ha x hx).1), mask_bit b 0 i (fun x hx => (hb x hx).1), Nat.zero_testBit, Bool.false_or, Bool.false_or, Bool.and_eq_true, List.any_eq_true, List.any_eq_true] at hi
    obtain ⟨⟨x, hx, ex⟩, ⟨y, hy, ey⟩⟩ := hi
    unfold meet
    rw [List.any_eq_true]
    refine ⟨x, hx, ?_⟩
    rw [List.any_eq_true]
    refine ⟨y, hy, ?_⟩
    rw [beq_iff_eq] at ex ey ⊢
    rw [ex, ey]
  · intro h h2
    unfold meet at h
    rw [List.any_eq_true] at h
    obtain ⟨x, hx, h⟩ := h
    rw [List.any_eq_true] at h
    obtain ⟨y, hy, h⟩ := h
    rw [beq_iff_eq] at h
    subst h
    have h3 : mask a 0 &&& mask b 0 = 0 := by omega
    have h4 := congrArg (fun z => z.testBit x.toNat) h3
    simp only [Nat.testBit_and, mask_bit a 0 _ (fun x hx => (ha x hx).1), mask_bit b 0 _ (fun x hx => (hb x hx).1), Nat.zero_testBit, Bool.false_or] at h4
    have hx0 := (ha x hx).1
    have h5 : (a.any fun z => z == ((x.toNat : Nat) : Int)) = true := List.any_eq_true.mpr ⟨x, hx, by rw [beq_iff_eq]; omega⟩
    have h6 : (b.any fun z => z == ((x.toNat : Nat) : Int)) = true := List.any_eq_true.mpr ⟨x, hy, by rw [beq_iff_eq]; omega⟩
    rw [h5, h6] at h4
    cases h4
theorem tab_mem {l : List Int} (h : tab l = true) : ∀ x, x ∈ l → 0 ≤ x ∧ x < 32 := by
  intro x hx
  obtain ⟨i, hi, e⟩ := List.getElem_of_mem hx
  have := tab_range l l.length 0 (by omega) h i (by omega) hi
  simp [List.getD, hi, e] at this
  exact this
theorem impl_leads (a b : S56) (ha : a.f2.length ≤ 1048576) (hb : b.f3.length ≤ 1048576) (ta : tab a.f2 = true) (tb : tab b.f3 = true) : Ev (fun k => impl_zLeads.f k a.f0 a.f1 a.f2 a.f3 b.f0 b.f1 b.f2 b.f3) (LD a b) := by
  unfold LD
  by_cases c0 : a.f0 < b.f1
  · by_cases c1 : b.f0 < a.f1
    · rw [decide_eq_true c0, decide_eq_true c1, Bool.true_and, Bool.true_and]
      have h1 := bits_told a.f2 ha (tab_mem ta)
      have h2 := bits_told b.f3 hb (tab_mem tb)
      have l1 := mask_lt a.f2 0 (tab_mem ta) (by decide)
      have l2 := mask_lt b.f3 0 (tab_mem tb) (by decide)
      refine Ev.eq (Ev.bind (g := fun k t185 => (impl_zBits.f k b.f3).bind fun t186 => some ((Go.bits .and .u32 t185 t186) != 0)) h1 (Ev.bind (g := fun k t186 => some ((Go.bits .and .u32 ((mask a.f2 0 : Nat) : Int) t186) != 0)) h2 (Ev.eq (Ev.now _) (fun k => ?_)))) (fun k => by unfold impl_zLeads.f; rw [if_pos c0, if_pos c1])
      rw [u32_and_nat _ _ (by omega) (by omega), meet_mask _ _ (tab_mem ta) (tab_mem tb)]
    · rw [decide_eq_true c0, decide_eq_false c1, Bool.true_and, Bool.false_and]
      exact Ev.eq (Ev.now _) (fun k => by unfold impl_zLeads.f; rw [if_pos c0, if_neg c1])
  · rw [decide_eq_false c0, Bool.false_and]
    exact Ev.eq (Ev.now _) (fun k => by unfold impl_zLeads.f; rw [if_neg c0])
/-! ### the order -/
section
variable (l : List S56) (hn : l.length ≤ 1000) (hL : Lens l) (hT : ∀ j, j < l.length → Tabbed (l.getD j z56))
/-- Must a be ahead of b? -/
def Ed (a b : Nat) : Bool := decide ((l.getD a z56).f1 ≤ (l.getD b z56).f0) || LD (l.getD a z56) (l.getD b z56)
/-- One that is ahead of q, for the count. -/
def dl (a q : Nat) : Int := if a ≠ q ∧ Ed l a q = true then 1 else 0
/-- How many of the first m, not gone, must be ahead of q. -/
def cnt (G : Nat → Bool) (q : Nat) : Nat → Int
  | 0 => 0
  | m + 1 => cnt G q m + (if G m = true then 0 else dl l m q)
theorem dl_range (a q : Nat) : 0 ≤ dl l a q ∧ dl l a q ≤ 1 := by unfold dl; split <;> omega
theorem cnt_range (G : Nat → Bool) (q : Nat) : ∀ m, 0 ≤ cnt l G q m ∧ cnt l G q m ≤ m
  | 0 => ⟨Int.le_refl _, Int.le_refl _⟩
  | m + 1 => by
    have h := cnt_range G q m
    have d := dl_range l m q
    unfold cnt
    split <;> omega
def upd (G : Nat → Bool) (a : Nat) : Nat → Bool := fun i => if i = a then true else G i
theorem cnt_upd (G : Nat → Bool) (a q : Nat) (hG : G a = false) : ∀ m, cnt l (upd G a) q m = cnt l G q m - (if a < m then dl l a q else 0)
  | 0 => by simp [cnt]
  | m + 1 => by
    have h := cnt_upd G a q hG m
    unfold cnt
    rw [h]
    by_cases e : m = a
    · subst e
      have u : upd G m m = true := by unfold upd; rw [if_pos rfl]
      rw [if_pos u, if_neg (by omega), if_neg (by rw [hG]; decide), if_pos (by omega)]
      omega
    · have u : upd G a m = G m := by unfold upd; rw [if_neg e]
      rw [u]
      generalize (if G m = true then (0 : Int) else dl l m q) = z
      by_cases c : a < m
      · rw [if_pos c, if_pos (by omega)]; omega
      · rw [if_neg c, if_neg (by omega)]; omega
theorem cnt_zero (G : Nat → Bool) (q : Nat) : ∀ m, cnt l G q m = 0 ↔ ∀ i, i < m → G i = false → dl l i q = 0
  | 0 => by simp [cnt]
  | m + 1 => by
    have h := cnt_zero G q m
    have r := cnt_range l G q m
    have d := dl_range l m q
    unfold cnt
    constructor
    · intro h0 i hi hG
      have h1 : cnt l G q m = 0 := by
        split at h0 <;> omega
      by_cases e : i = m
      · subst e
        rw [hG, if_neg (by decide)] at h0
        omega
      · exact h.1 h1 i (by omega) hG
    · intro h0
      have h1 := h.2 (fun i hi hG => h0 i (by omega) hG)
      rw [h1]
      cases e : G m with
      | true => rw [if_pos rfl]; rfl
      | false => rw [if_neg (by decide), h0 m (by omega) e]; rfl
/-- A row of bools tells G. -/
def Tells (g : List Bool) (G : Nat → Bool) : Prop := g.length = l.length ∧ ∀ i, i < l.length → g.getD i false = G i
theorem tells_set {g : List Bool} {G : Nat → Bool} (h : Tells l g G) (a : Nat) (ha : a < l.length) : Tells l (g.set a true) (upd G a) := by
  refine ⟨by rw [List.length_set]; exact h.1, fun i hi => ?_⟩
  unfold upd
  by_cases e : i = a
  · subst e
    rw [if_pos rfl]
    have : i < g.length := by rw [h.1]; exact hi
    simp [List.getD, this]
  · rw [if_neg e, ← h.2 i hi]
    simp [List.getD, Ne.symm e]
theorem rdB (g : List Bool) (i : Nat) : rdOf false g (i : Int) = g.getD i false := by unfold rdOf; rw [Int.toNat_natCast]
theorem getD_set (w : List Int) (i : Nat) (x : Int) (q : Nat) (hi : i < w.length) : (w.set i x).getD q 0 = if q = i then x else w.getD q 0 := by
  by_cases e : q = i
  · subst e; rw [if_pos rfl]; simp [List.getD, hi]
  · rw [if_neg e]; simp [List.getD, Ne.symm e]
include hn hL
/-- What the reference counts for one that is ahead. -/
theorem count_inner (a : Nat) (ha : a < l.length) (W : Nat → Int) (hW : ∀ q, 0 ≤ W q ∧ W q ≤ 1000) (r : List Int × Int)
    (hk : ∀ w : List Int, w.length = l.length → (∀ q, q < l.length → w.getD q 0 = W q + dl l a q) → Ev (fun k => spec_SerialOrder.l0 k l w l (l.length : Int) ((a + 1 : Nat) : Int)) r) :
    ∀ (m j : Nat) (w : List Int), j + m = l.length → w.length = l.length → (∀ q, q < l.length → w.getD q 0 = W q + if q < j then dl l a q else 0) →
      Ev (fun k => spec_SerialOrder.l1 k l w (a : Int) l (l.length : Int) (a : Int) l (l.length : Int) (j : Int) (l.getD a z56).f0 (l.getD a z56).f1 (l.getD a z56).f2 (l.getD a z56).f3) r := by
  intro m
  induction m with
  | zero =>
    intro j w hj hw hq
    refine Ev.succ (hk w hw (fun q hq0 => by rw [hq q hq0, if_pos (by omega)])) (fun k => ?_)
    simp only [spec_SerialOrder.l1]
    rw [if_neg (by omega), up1 a (by omega)]
  | succ m ih =>
    intro j w hj hw hq
    have e0 : ∀ k, spec_SerialOrder.l1 (k + 1) l w (a : Int) l (l.length : Int) (a : Int) l (l.length : Int) (j : Int) (l.getD a z56).f0 (l.getD a z56).f1 (l.getD a z56).f2 (l.getD a z56).f3 =
        if (a : Int) = (j : Int) then spec_SerialOrder.l1 k l w (a : Int) l (l.length : Int) (a : Int) l (l.length : Int) ((j + 1 : Nat) : Int) (l.getD a z56).f0 (l.getD a z56).f1 (l.getD a z56).f2 (l.getD a z56).f3
        else if (l.getD a z56).f1 ≤ (l.getD j z56).f0 then spec_SerialOrder.l1 k l (w.set j (w.getD j 0 + 1)) (a : Int) l (l.length : Int) (a : Int) l (l.length : Int) ((j + 1 : Nat) : Int) (l.getD a z56).f0 (l.getD a z56).f1 (l.getD a z56).f2 (l.getD a z56).f3
        else (spec_l15Leads.f k (l.getD a z56).f0 (l.getD a z56).f1 (l.getD a z56).f2 (l.getD a z56).f3 (l.getD j z56).f0 (l.getD j z56).f1 (l.getD j z56).f2 (l.getD j z56).f3).bind fun t => if t = true then spec_SerialOrder.l1 k l (w.set j (w.getD j 0 + 1)) (a : Int) l (l.length : Int) (a : Int) l (l.length : Int) ((j + 1 : Nat) : Int) (l.getD a z56).f0 (l.getD a z56).f1 (l.getD a z56).f2 (l.getD a z56).f3
          else spec_SerialOrder.l1 k l w (a : Int) l (l.length : Int) (a : Int) l (l.length : Int) ((j + 1 : Nat) : Int) (l.getD a z56).f0 (l.getD a z56).f1 (l.getD a z56).f2 (l.getD a z56).f3 := by
      intro k
      have hwj := hq j (by omega)
      rw [if_neg (by omega)] at hwj
      have hb := hW j
      simp only [spec_SerialOrder.l1]
      rw [if_pos (by omega), if_pos (by omega), if_pos (by omega), up1 j (by omega), rd56, rd_getD, Int.toNat_natCast, show wrap64 (w.getD j 0 + 1) = w.getD j 0 + 1 by rw [hwj]; unfold wrap64; omega]
      simp only [show ((j : Int) < (w.length : Int)) from by omega, if_true]
    have stay : dl l a j = 0 → (∀ q, q < l.length → w.getD q 0 = W q + if q < j + 1 then dl l a q else 0) := by
      intro hd q hq0
      rw [hq q hq0]
      by_cases e : q = j
      · subst e; rw [if_neg (by omega), if_pos (by omega), hd]
      · by_cases c : q < j
        · rw [if_pos c, if_pos (by omega)]
        · rw [if_neg c, if_neg (by omega)]
    have move : dl l a j = 1 → (∀ q, q < l.length → (w.set j (w.getD j 0 + 1)).getD q 0 = W q + if q < j + 1 then dl l a q else 0) := by
      intro hd q hq0
      rw [getD_set w j _ q (by omega)]
      by_cases e : q = j
      · subst e; rw [if_pos rfl, if_pos (by omega), hd, hq q hq0, if_neg (by omega)]; omega
      · rw [if_neg e, hq q hq0]
        by_cases c : q < j
        · rw [if_pos c, if_pos (by omega)]
        · rw [if_neg c, if_neg (by omega)]
    have hls : (w.set j (w.getD j 0 + 1)).length = l.length := by rw [List.length_set]; exact hw
    by_cases c0 : (a : Int) = (j : Int)
    · have hd : dl l a j = 0 := by unfold dl; rw [if_neg (fun h => h.1 (by omega))]
      exact Ev.succ (ih (j + 1) w (by omega) hw (stay hd)) (fun k => by rw [e0, if_pos c0])
    by_cases c1 : (l.getD a z56).f1 ≤ (l.getD j z56).f0
    · have hd : dl l a j = 1 := by unfold dl Ed; rw [if_pos ⟨by omega, by rw [decide_eq_true c1, Bool.true_or]⟩]
      exact Ev.succ (ih (j + 1) _ (by omega) hls (move hd)) (fun k => by rw [e0, if_neg c0, if_pos c1])
    have hl := spec_leads (l.getD a z56) (l.getD j z56) (hL a).1 (hL j).2
    cases t : LD (l.getD a z56) (l.getD j z56) with
    | true =>
      rw [t] at hl
      have hd : dl l a j = 1 := by unfold dl Ed; rw [if_pos ⟨by omega, by rw [t, Bool.or_true]⟩]
      exact Ev.succ (Ev.bind (g := fun k t => if t = true then spec_SerialOrder.l1 k l (w.set j (w.getD j 0 + 1)) (a : Int) l (l.length : Int) (a : Int) l (l.length : Int) ((j + 1 : Nat) : Int) (l.getD a z56).f0 (l.getD a z56).f1 (l.getD a z56).f2 (l.getD a z56).f3
          else spec_SerialOrder.l1 k l w (a : Int) l (l.length : Int) (a : Int) l (l.length : Int) ((j + 1 : Nat) : Int) (l.getD a z56).f0 (l.getD a z56).f1 (l.getD a z56).f2 (l.getD a z56).f3) hl (ih (j + 1) _ (by omega) hls (move hd))) (fun k => by rw [e0, if_neg c0, if_neg c1])
    | false =>
      rw [t] at hl
      have hd : dl l a j = 0 := by unfold dl Ed; rw [if_neg (fun h => by rw [t, decide_eq_false c1] at h; exact absurd h.2 (by decide))]
      exact Ev.succ (Ev.bind (g := fun k t => if t = true then spec_SerialOrder.l1 k l (w.set j (w.getD j 0 + 1)) (a : Int) l (l.length : Int) (a : Int) l (l.length : Int) ((j + 1 : Nat) : Int) (l.getD a z56).f0 (l.getD a z56).f1 (l.getD a z56).f2 (l.getD a z56).f3
          else spec_SerialOrder.l1 k l w (a : Int) l (l.length : Int) (a : Int) l (l.length : Int) ((j + 1 : Nat) : Int) (l.getD a z56).f0 (l.getD a z56).f1 (l.getD a z56).f2 (l.getD a z56).f3) hl (ih (j + 1) _ (by omega) hw (stay hd))) (fun k => by rw [e0, if_neg c0, if_neg c1])
/-- All are counted. -/
theorem count_outer (r : List Int × Int) (hk : ∀ w : List Int, w.length = l.length → (∀ q, q < l.length → w.getD q 0 = cnt l (fun _ => false) q l.length) → Ev (fun k => spec_SerialOrder.l2 k l w [] (List.replicate l.length false)) r) :
    ∀ (m a : Nat) (w : List Int), a + m = l.length → w.length = l.length → (∀ q, q < l.length → w.getD q 0 = cnt l (fun _ => false) q a) → Ev (fun k => spec_SerialOrder.l0 k l w l (l.length : Int) (a : Int)) r := by
  intro m
  induction m with
  | zero =>
    intro a w hj hw hq
    obtain rfl : a = l.length := by omega
    refine Ev.succ (hk w hw hq) (fun k => ?_)
    simp only [spec_SerialOrder.l0]
    rw [if_neg (by omega), if_pos (by omega), Int.toNat_natCast, if_pos (by omega)]
  | succ m ih =>
    intro a w hj hw hq
    have h := count_inner l hn hL a (by omega) (fun q => cnt l (fun _ => false) q a) (fun q => by have := cnt_range l (fun _ => false) q a; omega) r (fun w' hw' hq' => ih (a + 1) w' (by omega) hw' (fun q hq0 => by
      rw [hq' q hq0]
      show _ = cnt l (fun _ => false) q a + (if false = true then 0 else dl l a q)
      rw [if_neg (by decide)])) l.length 0 w (by omega) hw (fun q hq0 => by rw [hq q hq0, if_neg (by omega)]; omega)
    refine Ev.succ h (fun k => ?_)
    simp only [spec_SerialOrder.l0]
    rw [if_pos (by omega), if_pos (by omega), if_pos (by omega), rd56]
    rfl
/-- One has gone: the reference counts down. -/
theorem down_inner (a : Nat) (ha : a < l.length) (W : Nat → Int) (hW : ∀ q, 0 ≤ W q ∧ W q ≤ 1000) (out : List Int) (g : List Bool) (r : List Int × Int)
    (hk : ∀ w : List Int, w.length = l.length → (∀ q, q < l.length → w.getD q 0 = W q - dl l a q) → Ev (fun k => spec_SerialOrder.l2 k l w out g) r) :
    ∀ (m j : Nat) (w : List Int), j + m = l.length → w.length = l.length → (∀ q, q < l.length → w.getD q 0 = W q - if q < j then dl l a q else 0) →
      Ev (fun k => spec_SerialOrder.l4 k l w out g (a : Int) l (l.length : Int) (j : Int)) r := by
  intro m
  induction m with
  | zero =>
    intro j w hj hw hq
    refine Ev.succ (hk w hw (fun q hq0 => by rw [hq q hq0, if_pos (by omega)])) (fun k => ?_)
    simp only [spec_SerialOrder.l4]
    rw [if_neg (by omega)]
  | succ m ih =>
    intro j w hj hw hq
    have e0 : ∀ k, spec_SerialOrder.l4 (k + 1) l w out g (a : Int) l (l.length : Int) (j : Int) =
        if (j : Int) = (a : Int) then spec_SerialOrder.l4 k l w out g (a : Int) l (l.length : Int) ((j + 1 : Nat) : Int)
        else if (l.getD a z56).f1 ≤ (l.getD j z56).f0 then spec_SerialOrder.l4 k l (w.set j (w.getD j 0 - 1)) out g (a : Int) l (l.length : Int) ((j + 1 : Nat) : Int)
        else (spec_l15Leads.f k (l.getD a z56).f0 (l.getD a z56).f1 (l.getD a z56).f2 (l.getD a z56).f3 (l.getD j z56).f0 (l.getD j z56).f1 (l.getD j z56).f2 (l.getD j z56).f3).bind fun t => if t = true then spec_SerialOrder.l4 k l (w.set j (w.getD j 0 - 1)) out g (a : Int) l (l.length : Int) ((j + 1 : Nat) : Int)
          else spec_SerialOrder.l4 k l w out g (a : Int) l (l.length : Int) ((j + 1 : Nat) : Int) := by
      intro k
      have hwj := hq j (by omega)
      rw [if_neg (by omega)] at hwj
      have hb := hW j
      simp only [spec_SerialOrder.l4]
      rw [if_pos (by omega), if_pos (by omega), if_pos (by omega), up1 j (by omega), rd56, rd56, rd_getD, Int.toNat_natCast, show wrap64 (w.getD j 0 - 1) = w.getD j 0 - 1 by rw [hwj]; unfold wrap64; omega]
      simp only [show ((j : Int) < (w.length : Int)) from by omega, show ((0 : Int) ≤ (a : Int)) from by omega, show ((a : Int) < (l.length : Int)) from by omega, if_true]
    have stay : dl l a j = 0 → (∀ q, q < l.length → w.getD q 0 = W q - if q < j + 1 then dl l a q else 0) := by
      intro hd q hq0
      rw [hq q hq0]
      by_cases e : q = j
      · subst e; rw [if_neg (by omega), if_pos (by omega), hd]
      · by_cases c : q < j
        · rw [if_pos c, if_pos (by omega)]
        · rw [if_neg c, if_neg (by omega)]
    have move : dl l a j = 1 → (∀ q, q < l.length → (w.set j (w.getD j 0 - 1)).getD q 0 = W q - if q < j + 1 then dl l a q else 0) := by
      intro hd q hq0
      rw [getD_set w j _ q (by omega)]
      by_cases e : q = j
      · subst e; rw [if_pos rfl, if_pos (by omega), hd, hq q hq0, if_neg (by omega)]; omega
      · rw [if_neg e, hq q hq0]
        by_cases c : q < j
        · rw [if_pos c, if_pos (by omega)]
        · rw [if_neg c, if_neg (by omega)]
    have hls : (w.set j (w.getD j 0 - 1)).length = l.length := by rw [List.length_set]; exact hw
    by_cases c0 : (j : Int) = (a : Int)
    · have hd : dl l a j = 0 := by unfold dl; rw [if_neg (fun h => h.1 (by omega))]
      exact Ev.succ (ih (j + 1) w (by omega) hw (stay hd)) (fun k => by rw [e0, if_pos c0])
    by_cases c1 : (l.getD a z56).f1 ≤ (l.getD j z56).f0
    · have hd : dl l a j = 1 := by unfold dl Ed; rw [if_pos ⟨by omega, by rw [decide_eq_true c1, Bool.true_or]⟩]
      exact Ev.succ (ih (j + 1) _ (by omega) hls (move hd)) (fun k => by rw [e0, if_neg c0, if_pos c1])
    have hl := spec_leads (l.getD a z56) (l.getD j z56) (hL a).1 (hL j).2
    cases t : LD (l.getD a z56) (l.getD j z56) with
    | true =>
      rw [t] at hl
      have hd : dl l a j = 1 := by unfold dl Ed; rw [if_pos ⟨by omega, by rw [t, Bool.or_true]⟩]
      exact Ev.succ (Ev.bind (g := fun k t => if t = true then spec_SerialOrder.l4 k l (w.set j (w.getD j 0 - 1)) out g (a : Int) l (l.length : Int) ((j + 1 : Nat) : Int)
          else spec_SerialOrder.l4 k l w out g (a : Int) l (l.length : Int) ((j + 1 : Nat) : Int)) hl (ih (j + 1) _ (by omega) hls (move hd))) (fun k => by rw [e0, if_neg c0, if_neg c1])
    | false =>
      rw [t] at hl
      have hd : dl l a j = 0 := by unfold dl Ed; rw [if_neg (fun h => by rw [t, decide_eq_false c1] at h; exact absurd h.2 (by decide))]
      exact Ev.succ (Ev.bind (g := fun k t => if t = true then spec_SerialOrder.l4 k l (w.set j (w.getD j 0 - 1)) out g (a : Int) l (l.length : Int) ((j + 1 : Nat) : Int)
          else spec_SerialOrder.l4 k l w out g (a : Int) l (l.length : Int) ((j + 1 : Nat) : Int)) hl (ih (j + 1) _ (by omega) hw (stay hd))) (fun k => by rw [e0, if_neg c0, if_neg c1])
include hT
/-- Is one free? The program's look at all that are not done. -/
def freeFrom (G : Nat → Bool) (i : Nat) : Nat → Nat → Bool → Bool
  | 0, _, b => b
  | m + 1, j, b => freeFrom G i m (j + 1) (if j ≠ i ∧ G j = false ∧ Ed l j i = true then false else b)
omit hn hL hT in
theorem free_told (G : Nat → Bool) (i : Nat) : ∀ (m j : Nat) (b : Bool), (freeFrom l G i m j b = true ↔ b = true ∧ ∀ q, j ≤ q → q < j + m → G q = false → dl l q i = 0)
  | 0, j, b => by
    show b = true ↔ _
    constructor
    · intro h; exact ⟨h, fun q h1 h2 => by omega⟩
    · intro h; exact h.1
  | m + 1, j, b => by
    unfold freeFrom
    rw [free_told G i m (j + 1)]
    constructor
    · intro ⟨h1, h2⟩
      by_cases c : j ≠ i ∧ G j = false ∧ Ed l j i = true
      · rw [if_pos c] at h1; cases h1
      · rw [if_neg c] at h1
        refine ⟨h1, fun q hq1 hq2 hG => ?_⟩
        by_cases e : q = j
        · subst e
          unfold dl
          rw [if_neg (fun h => c ⟨h.1, hG, h.2⟩)]
        · exact h2 q (by omega) (by omega) hG
    · intro ⟨h1, h2⟩
      have c : ¬ (j ≠ i ∧ G j = false ∧ Ed l j i = true) := by
        intro c
        have := h2 j (Nat.le_refl _) (by omega) c.2.1
        unfold dl at this
        rw [if_pos ⟨c.1, c.2.2⟩] at this
        exact absurd this (by decide)
      rw [if_neg c]
      exact ⟨h1, fun q hq1 hq2 hG => h2 q (by omega) (by omega) hG⟩
theorem free_loop (G : Nat → Bool) (g : List Bool) (hg : Tells l g G) (out : List Int) (i : Nat) (hi : i < l.length) (x6 x17 x18 x21 x22 : Int) (r : List Int × Int)
    (hk : ∀ b, b = freeFrom l G i l.length 0 true → Ev (fun k => if b = true then (if (i : Int) < 0 then some (([] : List Int), 21) else if 0 ≤ (i : Int) then if (i : Int) < (g.length : Int) then if out.length < 17592186044416 then impl_SerialOrder.l0 k l (g.set (i : Int).toNat true) (out ++ [(i : Int)]) x17 (wrap64 (x18 + 1)) else none else none else none) else impl_SerialOrder.l1 k l g out x6 x17 x18 x21 (wrap64 (x22 + 1))) r) :
    ∀ (m j : Nat) (b : Bool), j + m = l.length → freeFrom l G i m j b = freeFrom l G i l.length 0 true → Ev (fun k => impl_SerialOrder.l2 k l g out x6 (i : Int) b x17 x18 x21 x22 (l.length : Int) (j : Int)) r := by
  intro m
  induction m with
  | zero =>
    intro j b hj hb
    refine Ev.succ (hk b hb) (fun k => ?_)
    simp only [impl_SerialOrder.l2]
    rw [if_neg (by omega)]
  | succ m ih =>
    intro j b hj hb
    have hgl := hg.1
    have e0 : ∀ k, impl_SerialOrder.l2 (k + 1) l g out x6 (i : Int) b x17 x18 x21 x22 (l.length : Int) (j : Int) =
        if (j : Int) = (i : Int) then impl_SerialOrder.l2 k l g out x6 (i : Int) b x17 x18 x21 x22 (l.length : Int) ((j + 1 : Nat) : Int)
        else if G j = true then impl_SerialOrder.l2 k l g out x6 (i : Int) b x17 x18 x21 x22 (l.length : Int) ((j + 1 : Nat) : Int)
        else if (l.getD j z56).f1 ≤ (l.getD i z56).f0 then impl_SerialOrder.l2 k l g out x6 (i : Int) false x17 x18 x21 x22 (l.length : Int) ((j + 1 : Nat) : Int)
        else (impl_zLeads.f k (l.getD j z56).f0 (l.getD j z56).f1 (l.getD j z56).f2 (l.getD j z56).f3 (l.getD i z56).f0 (l.getD i z56).f1 (l.getD i z56).f2 (l.getD i z56).f3).bind fun t => if t = true then impl_SerialOrder.l2 k l g out x6 (i : Int) false x17 x18 x21 x22 (l.length : Int) ((j + 1 : Nat) : Int)
          else impl_SerialOrder.l2 k l g out x6 (i : Int) b x17 x18 x21 x22 (l.length : Int) ((j + 1 : Nat) : Int) := by
      intro k
      simp only [impl_SerialOrder.l2]
      rw [if_pos (by omega), up1 j (by omega), rd56, rd56, rdB, hg.2 j (by omega)]
      simp only [show ((0 : Int) ≤ (j : Int)) from by omega, show ((j : Int) < (g.length : Int)) from by omega, show ((j : Int) < (l.length : Int)) from by omega, show ((0 : Int) ≤ (i : Int)) from by omega, show ((i : Int) < (l.length : Int)) from by omega, if_true]
    have hs : freeFrom l G i (m + 1) j b = freeFrom l G i m (j + 1) (if j ≠ i ∧ G j = false ∧ Ed l j i = true then false else b) := rfl
    rw [hs] at hb
    by_cases c0 : (j : Int) = (i : Int)
    · rw [if_neg (fun h => h.1 (by omega))] at hb
      exact Ev.succ (ih (j + 1) b (by omega) hb) (fun k => by rw [e0, if_pos c0])
    cases c1 : G j with
    | true =>
      rw [if_neg (fun h => by rw [c1] at h; exact absurd h.2.1 (by decide))] at hb
      exact Ev.succ (ih (j + 1) b (by omega) hb) (fun k => by rw [e0, if_neg c0, if_pos c1])
    | false =>
      have c1' : ¬ G j = true := by rw [c1]; decide
      by_cases c2 : (l.getD j z56).f1 ≤ (l.getD i z56).f0
      · rw [if_pos ⟨by omega, c1, by unfold Ed; rw [decide_eq_true c2, Bool.true_or]⟩] at hb
        exact Ev.succ (ih (j + 1) false (by omega) hb) (fun k => by rw [e0, if_neg c0, if_neg c1', if_pos c2])
      have hl := impl_leads (l.getD j z56) (l.getD i z56) (hL j).1 (hL i).2 (hT j (by omega)).1 (hT i hi).2
      cases t : LD (l.getD j z56) (l.getD i z56) with
      | true =>
        rw [t] at hl
        rw [if_pos ⟨by omega, c1, by unfold Ed; rw [t, Bool.or_true]⟩] at hb
        exact Ev.succ (Ev.bind (g := fun k t => if t = true then impl_SerialOrder.l2 k l g out x6 (i : Int) false x17 x18 x21 x22 (l.length : Int) ((j + 1 : Nat) : Int)
          else impl_SerialOrder.l2 k l g out x6 (i : Int) b x17 x18 x21 x22 (l.length : Int) ((j + 1 : Nat) : Int)) hl (ih (j + 1) false (by omega) hb)) (fun k => by rw [e0, if_neg c0, if_neg c1', if_neg c2])
      | false =>
        rw [t] at hl
        rw [if_neg (fun h => by have h9 := h.2.2; unfold Ed at h9; rw [t, decide_eq_false c2] at h9; exact absurd h9 (by decide))] at hb
        exact Ev.succ (Ev.bind (g := fun k t => if t = true then impl_SerialOrder.l2 k l g out x6 (i : Int) false x17 x18 x21 x22 (l.length : Int) ((j + 1 : Nat) : Int)
          else impl_SerialOrder.l2 k l g out x6 (i : Int) b x17 x18 x21 x22 (l.length : Int) ((j + 1 : Nat) : Int)) hl (ih (j + 1) b (by omega) hb)) (fun k => by rw [e0, if_neg c0, if_neg c1', if_neg c2])
/-- Both go on alike. -/
theorem rounds : ∀ (m : Nat) (G : Nat → Bool) (g : List Bool) (w out : List Int), out.length + m = l.length → Tells l g G → w.length = l.length → (∀ q, q < l.length → w.getD q 0 = cnt l G q l.length) →
    ∃ r : List Int × Int, r.1.length ≤ l.length ∧ Ev (fun k => spec_SerialOrder.l2 k l w out g) r ∧ Ev (fun k => impl_SerialOrder.l0 k l g out (l.length : Int) (out.length : Int)) r := by
  intro m
  induction m with
  | zero =>
    intro G g w out hm hg hw hq
    refine ⟨(out, 0), by show out.length ≤ l.length; omega, Ev.succ (Ev.now _) (fun k => ?_), Ev.succ (Ev.now _) (fun k => ?_)⟩
    · simp only [spec_SerialOrder.l2]; rw [if_neg (by omega)]
    · simp only [impl_SerialOrder.l0]; rw [if_neg (by omega)]
  | succ m ih =>
    intro G g w out hm hg hw hq
    have hgl := hg.1
    suffices h : ∀ (d i : Nat), i + d = l.length → ∃ r : List Int × Int, r.1.length ≤ l.length ∧ Ev (fun k => spec_SerialOrder.l3 k l w out g (-1) (l.length : Int) (i : Int)) r ∧ Ev (fun k => impl_SerialOrder.l1 k l g out (-1) (l.length : Int) (out.length : Int) (l.length : Int) (i : Int)) r by
      obtain ⟨r, hr, h1, h2⟩ := h l.length 0 (by omega)
      refine ⟨r, hr, Ev.succ h1 (fun k => ?_), Ev.succ h2 (fun k => ?_)⟩
      · simp only [spec_SerialOrder.l2]; rw [if_pos (by omega)]; rfl
      · simp only [impl_SerialOrder.l0]; rw [if_pos (by omega)]; rfl
    intro d
    induction d with
    | zero =>
      intro i hi
      refine ⟨([], 21), Nat.zero_le _, ?_, Ev.succ (Ev.now _) (fun k => ?_)⟩
      · refine Ev.succ (g := fun k => spec_SerialOrder.j4 k l w out g (-1)) (Ev.succ (Ev.now _) (fun k => ?_)) (fun k => ?_)
        · simp only [spec_SerialOrder.j4]; rw [if_pos (by decide)]
        · simp only [spec_SerialOrder.l3]; rw [if_neg (by omega)]
      · simp only [impl_SerialOrder.l1]; rw [if_neg (by omega), if_pos (by decide)]
    | succ d ihd =>
      intro i hi
      obtain ⟨r, hr, h1, h2⟩ := ihd (i + 1) (by omega)
      cases c1 : G i with
      | true =>
        refine ⟨r, hr, Ev.succ h1 (fun k => ?_), Ev.succ h2 (fun k => ?_)⟩
        · simp only [spec_SerialOrder.l3]
          rw [if_pos (by omega), if_pos (by omega), if_pos (by omega), rdB, hg.2 i (by omega), if_pos c1, up1 i (by omega)]
        · simp only [impl_SerialOrder.l1]
          rw [if_pos (by omega), if_pos (by omega), if_pos (by omega), rdB, hg.2 i (by omega), if_pos c1, up1 i (by omega)]
      | false =>
        have c1' : ¬ G i = true := by rw [c1]; decide
        have hfree : freeFrom l G i l.length 0 true = true ↔ w.getD i 0 = 0 := by
          rw [free_told, hq i (by omega), cnt_zero]
          constructor
          · intro h q hq1 hG; exact h.2 q (Nat.zero_le _) (by omega) hG
          · intro h; exact ⟨rfl, fun q _ hq2 hG => h q (by omega) hG⟩
        have i2 : ∀ k, impl_SerialOrder.l1 (k + 1) l g out (-1) (l.length : Int) (out.length : Int) (l.length : Int) (i : Int) = impl_SerialOrder.l2 k l g out (-1) (i : Int) true (l.length : Int) (out.length : Int) (l.length : Int) (i : Int) (l.length : Int) ((0 : Nat) : Int) := fun k => by
          simp only [impl_SerialOrder.l1]
          rw [if_pos (by omega), if_pos (by omega), if_pos (by omega), rdB, hg.2 i (by omega), if_neg c1']
          rfl
        by_cases c2 : w.getD i 0 = 0
        · have hb := hfree.2 c2
          obtain ⟨r, hr, g1, g2⟩ : ∃ r : List Int × Int, r.1.length ≤ l.length ∧ Ev (fun k => spec_SerialOrder.l4 k l w (out ++ [(i : Int)]) (g.set i true) (i : Int) l (l.length : Int) ((0 : Nat) : Int)) r ∧ Ev (fun k => impl_SerialOrder.l0 k l (g.set i true) (out ++ [(i : Int)]) (l.length : Int) ((out.length + 1 : Nat) : Int)) r := by
            have hol : (out ++ [(i : Int)]).length = out.length + 1 := by rw [List.length_append, List.length_singleton]
            obtain ⟨w2, hw2, hq2⟩ : ∃ w2 : List Int, w2.length = l.length ∧ ∀ q, q < l.length → w2.getD q 0 = cnt l (upd G i) q l.length := by
              refine ⟨(List.range l.length).map fun q => cnt l (upd G i) q l.length, by simp, fun q hq0 => by simp [List.getD, hq0]⟩
            obtain ⟨r, hr, g1, g2⟩ := ih (upd G i) (g.set i true) w2 (out ++ [(i : Int)]) (by omega) (tells_set l hg i (by omega)) hw2 hq2
            rw [hol] at g2
            refine ⟨r, hr, ?_, g2⟩
            refine down_inner l hn hL i (by omega) (fun q => cnt l G q l.length) (fun q => by have := cnt_range l G q l.length; omega) (out ++ [(i : Int)]) (g.set i true) r (fun w' hw' hq' => ?_) l.length 0 w (by omega) hw (fun q hq0 => by rw [hq q hq0, if_neg (by omega)]; omega)
            have e : w' = w2 := by
              refine List.ext_getElem (by omega) (fun q h1 h2 => ?_)
              have ha := hq' q (by omega)
              have hb2 := hq2 q (by omega)
              rw [cnt_upd l G i q c1, if_pos (by omega)] at hb2
              rw [← hb2] at ha
              simp [List.getD, h1, h2] at ha
              exact ha
            rw [e]; exact g1
          refine ⟨r, hr, ?_, ?_⟩
          · refine Ev.succ (g := fun k => spec_SerialOrder.j4 k l w out g (i : Int)) (Ev.succ g1 (fun k => ?_)) (fun k => ?_)
            · simp only [spec_SerialOrder.j4]
              rw [if_neg (by omega), if_pos (by omega), if_pos (by omega), if_pos (by omega), Int.toNat_natCast]
              rfl
            · simp only [spec_SerialOrder.l3]
              rw [if_pos (by omega), if_pos (by omega), if_pos (by omega), rdB, hg.2 i (by omega), if_neg c1', if_pos (by omega), rd_getD, if_pos c2]
          · refine Ev.succ (free_loop l hn hL hT G g hg out i (by omega) (-1) (l.length : Int) (out.length : Int) (l.length : Int) (i : Int) r (fun b hbb => ?_) l.length 0 true (by omega) rfl) i2
            rw [hbb, hb]
            refine Ev.eq g2 (fun k => ?_)
            rw [if_pos rfl, if_neg (by omega), if_pos (by omega), if_pos (by omega), if_pos (by omega), Int.toNat_natCast, up1 out.length (by omega)]
        · have hb : freeFrom l G i l.length 0 true = false := by
            cases h : freeFrom l G i l.length 0 true with
            | false => rfl
            | true => exact absurd (hfree.1 h) c2
          refine ⟨r, hr, Ev.succ h1 (fun k => ?_), ?_⟩
          · simp only [spec_SerialOrder.l3]
            rw [if_pos (by omega), if_pos (by omega), if_pos (by omega), rdB, hg.2 i (by omega), if_neg c1', if_pos (by omega), rd_getD, if_neg c2, up1 i (by omega)]
          · refine Ev.succ (free_loop l hn hL hT G g hg out i (by omega) (-1) (l.length : Int) (out.length : Int) (l.length : Int) (i : Int) r (fun b hbb => ?_) l.length 0 true (by omega) rfl) i2
            rw [hbb, hb]
            refine Ev.eq h2 (fun k => ?_)
            rw [if_neg (by decide), up1 i (by omega)]
end
theorem order_told (l : List S56) (hL : Lens l) : ∃ r : List Int × Int, r.1.length ≤ 1000 ∧ Ev (fun k => spec_SerialOrder.f k l) r ∧ Ev (fun k => impl_SerialOrder.f k l) r := by
  obtain ⟨b, h1, h2, h3⟩ := hist_told l hL
  cases b with
  | false =>
    exact ⟨([], 1), by decide, Ev.bind (g := fun k t => if t = true then (if 0 ≤ (l.length : Int) then (if ((l.length : Int) : Int).toNat ≤ 35184372088832 then (spec_SerialOrder.l0 k l (List.replicate ((l.length : Int) : Int).toNat 0) l (l.length : Int) 0) else none) else none) else some ([], 1)) h1 (Ev.now _),
      Ev.bind (g := fun k t => if t = true then (if 0 ≤ (l.length : Int) then (if ((l.length : Int) : Int).toNat ≤ 281474976710656 then (impl_SerialOrder.l0 k l (List.replicate ((l.length : Int) : Int).toNat false) ([] : List Int) (l.length : Int) 0) else none) else none) else some ([], 1)) h2 (Ev.now _)⟩
  | true =>
    obtain ⟨hn, hT⟩ := h3 rfl
    obtain ⟨w2, hw2, hq2⟩ : ∃ w2 : List Int, w2.length = l.length ∧ ∀ q, q < l.length → w2.getD q 0 = cnt l (fun _ => false) q l.length :=
      ⟨(List.range l.length).map fun q => cnt l (fun _ => false) q l.length, by simp, fun q hq0 => by simp [List.getD, hq0]⟩
    obtain ⟨r, hr, g1, g2⟩ := rounds l hn hL hT l.length (fun _ => false) (List.replicate l.length false) w2 [] (by simp) ⟨by simp, fun i hi => by simp [List.getD, hi]⟩ hw2 hq2
    have g0 := count_outer l hn hL r (fun w' hw' hq' => by
      have e : w' = w2 := by
        refine List.ext_getElem (by omega) (fun q h1 h2 => ?_)
        have ha := hq' q (by omega)
        have hb2 := hq2 q (by omega)
        rw [← hb2] at ha
        simp [List.getD, h1, h2] at ha
        exact ha
      rw [e]; exact g1) l.length 0 (List.replicate l.length 0) (by omega) (by simp) (fun q hq0 => by simp [List.getD, hq0, cnt])
    refine ⟨r, by omega, Ev.bind (g := fun k t => if t = true then (if 0 ≤ (l.length : Int) then (if ((l.length : Int) : Int).toNat ≤ 35184372088832 then (spec_SerialOrder.l0 k l (List.replicate ((l.length : Int) : Int).toNat 0) l (l.length : Int) 0) else none) else none) else some ([], 1)) h1 (Ev.eq g0 (fun k => ?_)),
      Ev.bind (g := fun k t => if t = true then (if 0 ≤ (l.length : Int) then (if ((l.length : Int) : Int).toNat ≤ 281474976710656 then (impl_SerialOrder.l0 k l (List.replicate ((l.length : Int) : Int).toNat false) ([] : List Int) (l.length : Int) 0) else none) else none) else some ([], 1)) h2 (Ev.eq g2 (fun k => ?_))⟩
    · rw [if_pos rfl, if_pos (by omega), Int.toNat_natCast, if_pos (by omega)]; rfl
    · rw [if_pos rfl, if_pos (by omega), Int.toNat_natCast, if_pos (by omega)]; rfl
/-! ### the law's own words -/
theorem w64 (n : Int) (h1 : -9223372036854775808 ≤ n) (h2 : n ≤ 9223372036854775807) : wrap64 n = n := by unfold wrap64; omega
theorem sz_loop (l : List S54) (hl : l.length ≤ 281474976710656) (hs : ∀ i, i < l.length → (l.getD i z54).f2.length ≤ 281474976710656 ∧ (l.getD i z54).f3.length ≤ 281474976710656) : ∀ (n i : Nat) (left : Int), i + n = l.length → 0 ≤ left → left ≤ 1048576 →
    ∃ r, laws_szTxnInfoS.l0 (n + 1) l left (i : Int) = some r ∧ (r < 0 ∨ ∀ j, i ≤ j → j < l.length → (l.getD j z54).f2.length ≤ 1048576 ∧ (l.getD j z54).f3.length ≤ 1048576) := by
  intro n
  induction n with
  | zero =>
    intro i left hi h0 h1
    refine ⟨left, ?_, .inr (fun j h1 h2 => by omega)⟩
    simp only [laws_szTxnInfoS.l0]
    rw [if_neg (by omega)]
  | succ n ih =>
    intro i left hi h0 h1
    have h := hs i (by omega)
    obtain ⟨q, hq⟩ : ∃ q, q = n + 1 := ⟨_, rfl⟩
    rw [← hq] at ih ⊢
    simp only [laws_szTxnInfoS.l0, laws_szTxnInfo.f, laws_szIntS.f]
    rw [if_pos (by omega), if_pos (by omega), rd54, up1 i (by omega)]
    generalize hx : l.getD i z54 = x at h
    rw [w64 (left - (x.f2.length : Int)) (by omega) (by omega)]
    by_cases c : left - (x.f2.length : Int) < 0
    · refine ⟨-1, ?_, .inl (by decide)⟩
      rw [if_pos c, Option.bind_some, if_pos (by decide), Option.bind_some, if_pos (by decide)]
    · rw [if_neg c, Option.bind_some, if_neg c, w64 (left - (x.f2.length : Int) - (x.f3.length : Int)) (by omega) (by omega)]
      by_cases c2 : left - (x.f2.length : Int) - (x.f3.length : Int) < 0
      · refine ⟨-1, ?_, .inl (by decide)⟩
        rw [if_pos c2, Option.bind_some, if_pos (by decide), Option.bind_some, if_pos (by decide)]
      · rw [if_neg c2, Option.bind_some, if_neg c2, Option.bind_some, if_neg c2]
        obtain ⟨r, g1, g2⟩ := ih (i + 1) (left - (x.f2.length : Int) - (x.f3.length : Int)) (by omega) (by omega) (by omega)
        refine ⟨r, g1, g2.imp id fun g j h1 h2 => ?_⟩
        by_cases e : j = i
        · subst e; rw [hx]; exact ⟨by omega, by omega⟩
        · exact g j (by omega) h2
theorem sz_told (l : List S54) (hl : l.length ≤ 281474976710656) (hs : ∀ i, i < l.length → (l.getD i z54).f2.length ≤ 281474976710656 ∧ (l.getD i z54).f3.length ≤ 281474976710656) :
    ∃ r, Ev (fun k => laws_szTxnInfoS.f k l 1048576) r ∧ (r < 0 ∨ (l.length ≤ 1048576 ∧ ∀ j, j < l.length → (l.getD j z54).f2.length ≤ 1048576 ∧ (l.getD j z54).f3.length ≤ 1048576)) := by
  by_cases c : 1048576 - (l.length : Int) < 0
  · refine ⟨-1, Ev.eq (Ev.now _) (fun k => ?_), .inl (by decide)⟩
    unfold laws_szTxnInfoS.f
    rw [w64 (1048576 - (l.length : Int)) (by omega) (by omega), if_pos c]
  · obtain ⟨r, h1, h2⟩ := sz_loop l hl hs l.length 0 (1048576 - l.length) (by omega) (by omega) (by omega)
    refine ⟨r, Ev.of (laws_szTxnInfoS.mono l 1048576) ⟨l.length + 1, ?_⟩, h2.imp id fun g => ⟨by omega, fun j hj => g j (by omega) hj⟩⟩
    unfold laws_szTxnInfoS.f
    rw [w64 (1048576 - (l.length : Int)) (by omega) (by omega), if_neg c]
    exact h1
theorem toi_loop (l : List Int) (hl : l.length ≤ 1048576) : ∀ (n i : Nat) (x : List Int), i + n = l.length → x.length = l.length → x.take i = l.take i → laws_toIntS.l0 (n + 1) l x (i : Int) = some l := by
  intro n
  induction n with
  | zero =>
    intro i x hi hx ht
    simp only [laws_toIntS.l0]
    rw [if_neg (by omega)]
    obtain rfl : i = l.length := by omega
    rw [List.take_of_length_le (by omega), List.take_of_length_le (Nat.le_refl _)] at ht
    rw [ht]
  | succ n ih =>
    intro i x hi hx ht
    obtain ⟨q, hq⟩ : ∃ q, q = n + 1 := ⟨_, rfl⟩
    rw [← hq] at ih ⊢
    simp only [laws_toIntS.l0]
    rw [if_pos (by omega), if_pos (by omega), if_pos (by omega), rd_getD, up1 i (by omega), Int.toNat_natCast]
    refine ih (i + 1) _ (by omega) (by rw [List.length_set]; exact hx) ?_
    have e1 : l.getD i 0 = l[i] := by simp [List.getD, show i < l.length by omega]
    rw [List.take_succ_eq_append_getElem (show i < l.length by omega), ← ht, List.take_succ_eq_append_getElem (by rw [List.length_set]; omega)]
    congr 1
    · rw [List.take_set_of_le (Nat.le_refl _)]
    · rw [e1]; simp
theorem toi_told (l : List Int) (hl : l.length ≤ 1048576) : Ev (fun k => laws_toIntS.f k l) l := by
  refine Ev.of (laws_toIntS.mono l) ⟨l.length + 1, ?_⟩
  unfold laws_toIntS.f
  rw [if_pos (by omega), Int.toNat_natCast, if_pos (by omega)]
  exact toi_loop l hl l.length 0 _ (by omega) (by simp) (by simp)
def turn (x : S54) : S56 := ⟨x.f0, x.f1, x.f2, x.f3⟩
theorem turn_at (l : List S54) (i : Nat) (hi : i < l.length) : (l.map turn).getD i z56 = turn (l.getD i z54) := by simp [List.getD, hi]
theorem to_loop (l : List S54) (hl : l.length ≤ 1048576) (hs : ∀ j, j < l.length → (l.getD j z54).f2.length ≤ 1048576 ∧ (l.getD j z54).f3.length ≤ 1048576) : ∀ (n i : Nat) (x : List S56), i + n = l.length → x.length = l.length → x.take i = (l.take i).map turn →
    Ev (fun k => laws_toTxnInfoS.l0 k l x (i : Int)) (l.map turn) := by
  intro n
  induction n with
  | zero =>
    intro i x hi hx ht
    obtain rfl : i = l.length := by omega
    rw [List.take_of_length_le (by omega), List.take_of_length_le (Nat.le_refl _)] at ht
    rw [← ht]
    exact Ev.succ (Ev.now _) (fun k => by simp only [laws_toTxnInfoS.l0]; rw [if_neg (by omega)])
  | succ n ih =>
    intro i x hi hx ht
    have hsi := hs i (by omega)
    have h := ih (i + 1) (x.set i (turn (l.getD i z54))) (by omega) (by rw [List.length_set]; exact hx) (by
      have e1 : l.getD i z54 = l[i] := by simp [List.getD, show i < l.length by omega]
      rw [List.take_succ_eq_append_getElem (show i < l.length by omega), List.map_append, ← ht, List.take_succ_eq_append_getElem (by rw [List.length_set]; omega)]
      congr 1
      · rw [List.take_set_of_le (Nat.le_refl _)]
      · rw [e1]; simp)
    refine Ev.succ (g := fun k => (laws_toTxnInfo.f k (l.getD i z54).f0 (l.getD i z54).f1 (l.getD i z54).f2 (l.getD i z54).f3).bind fun b => laws_toTxnInfoS.l0 k l (x.set i ⟨b.1, b.2.1, b.2.2.1, b.2.2.2⟩) ((i + 1 : Nat) : Int)) ?_ (fun k => ?_)
    · refine Ev.bind (r := ((l.getD i z54).f0, (l.getD i z54).f1, (l.getD i z54).f2, (l.getD i z54).f3)) ?_ h
      exact Ev.bind (g := fun k t163 => (laws_toIntS.f k (l.getD i z54).f3).bind fun t166 => some ((l.getD i z54).f0, (l.getD i z54).f1, t163, t166)) (toi_told _ hsi.1) (Ev.bind (g := fun k t166 => some ((l.getD i z54).f0, (l.getD i z54).f1, (l.getD i z54).f2, t166)) (toi_told _ hsi.2) (Ev.now _))
    · simp only [laws_toTxnInfoS.l0]
      rw [if_pos (by omega), if_pos (by omega), rd54, up1 i (by omega), Int.toNat_natCast]
      simp only [show ((i : Int) < (x.length : Int)) from by omega, if_true]
theorem to_told (l : List S54) (hl : l.length ≤ 1048576) (hs : ∀ j, j < l.length → (l.getD j z54).f2.length ≤ 1048576 ∧ (l.getD j z54).f3.length ≤ 1048576) : Ev (fun k => laws_toTxnInfoS.f k l) (l.map turn) := by
  refine Ev.eq (to_loop l hl hs l.length 0 (List.replicate l.length z56) (by omega) (by simp) (by simp)) (fun k => ?_)
  unfold laws_toTxnInfoS.f
  rw [if_pos (by omega), Int.toNat_natCast, if_pos (by omega)]
  rfl
theorem eqi_loop (l : List Int) (hl : l.length ≤ 1048576) : ∀ (n i : Nat), i + n = l.length → laws_eqIntS.l0 (n + 1) l l (i : Int) = some true := by
  intro n
  induction n with
  | zero =>
    intro i hi
    simp only [laws_eqIntS.l0]
    rw [if_neg (by omega)]
  | succ n ih =>
    intro i hi
    obtain ⟨q, hq⟩ : ∃ q, q = n + 1 := ⟨_, rfl⟩
    rw [← hq] at ih ⊢
    simp only [laws_eqIntS.l0]
    rw [if_pos (by omega), if_pos (by omega), if_pos (by omega), if_pos trivial, up1 i (by omega)]
    exact ih (i + 1) (by omega)
theorem eqi_told (l : List Int) (hl : l.length ≤ 1048576) : Ev (fun k => laws_eqIntS.f k l l) true := by
  refine Ev.of (laws_eqIntS.mono l l) ⟨l.length + 1, ?_⟩
  unfold laws_eqIntS.f
  rw [if_pos rfl]
  exact eqi_loop l hl l.length 0 (by omega)
theorem eqt_loop (l : List S56) (hl : l.length ≤ 1048576) (hL : Lens l) : ∀ (n i : Nat), i + n = l.length → Ev (fun k => laws_eqTxnInfoS.l0 k l l (i : Int)) true := by
  intro n
  induction n with
  | zero =>
    intro i hi
    exact Ev.succ (Ev.now _) (fun k => by simp only [laws_eqTxnInfoS.l0]; rw [if_neg (by omega)])
  | succ n ih =>
    intro i hi
    have h := ih (i + 1) (by omega)
    have h2 := eqi_told _ (hL i).1
    have h3 := eqi_told _ (hL i).2
    refine Ev.succ (g := fun k => (laws_eqTxnInfo.f k (l.getD i z56).f0 (l.getD i z56).f1 (l.getD i z56).f2 (l.getD i z56).f3 (l.getD i z56).f0 (l.getD i z56).f1 (l.getD i z56).f2 (l.getD i z56).f3).bind fun t => if t = true then laws_eqTxnInfoS.l0 k l l ((i + 1 : Nat) : Int) else some false) ?_ (fun k => ?_)
    · refine Ev.bind (r := true) ?_ (Ev.eq h (fun k => if_pos rfl))
      refine Ev.eq (Ev.bind (g := fun k t => if t = true then (laws_eqIntS.f k (l.getD i z56).f3 (l.getD i z56).f3).bind fun t => (if t = true then some true else some false) else some false) h2 (Ev.eq (Ev.bind (g := fun k t => if t = true then some true else some false) h3 (Ev.now _)) (fun k => if_pos rfl))) (fun k => ?_)
      unfold laws_eqTxnInfo.f
      rw [if_pos rfl, if_pos rfl]
    · simp only [laws_eqTxnInfoS.l0]
      rw [if_pos (by omega), if_pos (by omega), if_pos (by omega), rd56, up1 i (by omega)]
theorem eqt_told (l : List S56) (hl : l.length ≤ 1048576) (hL : Lens l) : Ev (fun k => laws_eqTxnInfoS.f k l l) true :=
  Ev.eq (eqt_loop l hl hL l.length 0 (by omega)) (fun k => by unfold laws_eqTxnInfoS.f; rw [if_pos rfl]; rfl)
theorem markh_loop (len : Nat) (hz : len ≤ 1048576) : ∀ (n i : Nat) (z : List Int), z.length = len → i + n = len → (∀ q, q < i → z.getD q 0 = ((q + 1 : Nat) : Int)) →
    ∃ y, laws_markIntS.l0 (n + 1) z ((i + 1 : Nat) : Int) (i : Int) = some (((len + 1 : Nat) : Int), y) ∧ y.length = len ∧ ∀ q, q < len → y.getD q 0 = ((q + 1 : Nat) : Int) := by
  intro n
  induction n with
  | zero =>
    intro i z hl hi hq
    obtain rfl : i = len := by omega
    refine ⟨z, ?_, hl, hq⟩
    simp only [laws_markIntS.l0]
    rw [if_neg (by omega)]
  | succ n ih =>
    intro i z hl hi hq
    obtain ⟨q, hqq⟩ : ∃ q, q = n + 1 := ⟨_, rfl⟩
    rw [← hqq] at ih ⊢
    obtain ⟨y, h1, h2, h3⟩ := ih (i + 1) (z.set i ((i + 1 : Nat) : Int)) (by simp [hl]) (by omega) (fun a ha => by
      rw [getD_set z i _ a (by omega)]
      by_cases e : a = i
      · subst e; rw [if_pos rfl]
      · rw [if_neg e]; exact hq a (by omega))
    refine ⟨y, ?_, h2, h3⟩
    simp only [laws_markIntS.l0]
    rw [if_pos (by omega), if_pos (by omega), Int.toNat_natCast, up1 i (by omega), up1 (i + 1) (by omega)]
    exact h1
theorem heldi_loop (z : List Int) (hz : z.length ≤ 1048576) (hq : ∀ q, q < z.length → z.getD q 0 = ((q + 1 : Nat) : Int)) : ∀ (n i : Nat), i + n = z.length → laws_heldIntS.l0 (n + 1) z ((i + 1 : Nat) : Int) (i : Int) = some ((z.length + 1 : Nat) : Int) := by
  intro n
  induction n with
  | zero =>
    intro i hi
    simp only [laws_heldIntS.l0]
    rw [if_neg (by omega), show i = z.length by omega]
  | succ n ih =>
    intro i hi
    obtain ⟨q, hqq⟩ : ∃ q, q = n + 1 := ⟨_, rfl⟩
    rw [← hqq] at ih ⊢
    simp only [laws_heldIntS.l0]
    rw [if_pos (by omega), if_pos (by omega), rd_getD, if_pos (hq i (by omega)), up1 i (by omega), up1 (i + 1) (by omega)]
    exact ih (i + 1) (by omega)
theorem markh_told (z : List Int) (hz : z.length ≤ 1048576) : ∃ y, y.length = z.length ∧ Ev (fun k => laws_markIntS.f k z 1) (((z.length + 1 : Nat) : Int), y) ∧ Ev (fun k => laws_heldIntS.f k y 1) ((z.length + 1 : Nat) : Int) := by
  obtain ⟨y, h1, h2, h3⟩ := markh_loop z.length hz z.length 0 z rfl (by omega) (fun q h => by omega)
  refine ⟨y, h2, Ev.of (laws_markIntS.mono z 1) ⟨_, h1⟩, Ev.of (laws_heldIntS.mono y 1) ⟨y.length + 1, ?_⟩⟩
  have h := heldi_loop y (by omega) (by rw [h2]; exact h3) y.length 0 (by omega)
  rw [h2] at h ⊢
  exact h
/-- All that the law's walk asks, or that it stops at once. -/
theorem all_told (l0 : List S54) (hl : l0.length ≤ 281474976710656) (hs : ∀ i, i < l0.length → (l0.getD i z54).f2.length ≤ 281474976710656 ∧ (l0.getD i z54).f3.length ≤ 281474976710656) :
    (∃ k t, laws_szTxnInfoS.f k l0 1048576 = some t ∧ t < 0) ∨ ∃ (k : Nat) (t : Int) (l : List S56) (ro : List Int) (rc m : Int) (y : List Int), laws_szTxnInfoS.f k l0 1048576 = some t ∧ ¬ t < 0 ∧ laws_toTxnInfoS.f k l0 = some l ∧ spec_SerialOrder.f k l = some (ro, rc) ∧ impl_SerialOrder.f k l = some (ro, rc) ∧
      laws_eqIntS.f k ro ro = some true ∧ laws_eqTxnInfoS.f k l l = some true ∧ Short l ∧ l.length ≤ 1048576 ∧ laws_markIntS.f k ro 1 = some (m, y) ∧ laws_heldIntS.f k y 1 = some m ∧ 0 ≤ m ∧ y.length = ro.length := by
  obtain ⟨t, ⟨k0, ht⟩, h2⟩ := sz_told l0 hl hs
  by_cases c : t < 0
  · exact .inl ⟨k0, t, ht k0 (Nat.le_refl _), c⟩
  obtain ⟨hl2, hs2⟩ := h2.resolve_left c
  have hL : Lens (l0.map turn) := by
    intro i
    by_cases hi : i < l0.length
    · rw [turn_at l0 i hi]; exact hs2 i hi
    · have e : (l0.map turn).getD i z56 = z56 := by simp [List.getD, Nat.le_of_not_lt hi]
      rw [e]; exact ⟨by decide, by decide⟩
  have hml : (l0.map turn).length = l0.length := by simp
  obtain ⟨⟨ro, rc⟩, hr, ⟨k1, h1⟩, ⟨k2, h2⟩⟩ := order_told (l0.map turn) hL
  have hr : ro.length ≤ 1000 := hr
  obtain ⟨k3, h3⟩ := to_told l0 hl2 hs2
  obtain ⟨k4, h4⟩ := eqi_told ro (by omega)
  obtain ⟨k5, h5⟩ := eqt_told (l0.map turn) (by omega) hL
  obtain ⟨y, hy, ⟨k6, h6⟩, ⟨k7, h7⟩⟩ := markh_told ro (by omega)
  obtain ⟨k, hk⟩ : ∃ k, k = k0 + k1 + k2 + k3 + k4 + k5 + k6 + k7 := ⟨_, rfl⟩
  exact .inr ⟨k, t, l0.map turn, ro, rc, _, y, ht k (by omega), c, h3 k (by omega), h1 k (by omega), h2 k (by omega), h4 k (by omega), h5 k (by omega), hL, by omega, h6 k (by omega), h7 k (by omega), by omega, hy⟩
end Go.Proofs.Ytaicfmmgmblmiaa.PureSerialOrder
