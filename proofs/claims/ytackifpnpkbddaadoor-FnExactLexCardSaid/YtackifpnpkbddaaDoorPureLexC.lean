/- Proved: the program's Lex and the reference's Lex answer alike at every text. -/
import Derived.Test.YtackifpnpkbddaaDoorPureLexB
set_option linter.unusedVariables false
set_option linter.unusedSimpArgs false
set_option linter.unusedSectionVars false
namespace Go.Proofs.YtackifpnpkbddaaDoor.PureLex
open Go.RowKit Go.Lib Go.Proofs.YtackifpnpkbddaaDoor.QFnExactLex Go.Proofs.YtackifpnpkbddaaDoorScan Go.Proofs.YtackifpnpkbddaaDoor.CharsLx
open Go.Proofs.YtackifpnpkbddaaDoorW.PrintWords hiding Ev Ev.bind Ev.congr Ev.now Ev.of Ev.rounds Ev.step 
open Go.Proofs.YtackifpnpkbddaaDoorW.PrintLast hiding up
/-- Is it a blank. -/
def isBl (c : UInt8) : Bool := c == 32 || c == 9 || c == 10 || c == 13
def isCm (L : B) (a : Nat) : Prop := a + 1 < L.length ∧ L.getD a 0 = 45 ∧ L.getD (a + 1) 0 = 45
instance (L : B) (a : Nat) : Decidable (isCm L a) := by unfold isCm; infer_instance
theorem n_eq (c : UInt8) (z : Int) (d : UInt8) (hd : (d.toNat : Int) = z) : ((c.toNat : Int) = z) ↔ c = d := by
 constructor
 ·intro h; exact UInt8.toNat_inj.1 (by omega)
 ·intro h; rw [h, hd]
/-- An error's place lies in the row. -/
theorem scan_err (l : B) (h0 : 0 < l.length) (hl : l.length ≤ 8000) : 0 ≤ (scanL l).2.2.2.2 ∧ (scanL l).2.2.2.2 ≤ 16000 := by
 have ne : ∀ (k : Int) (t : B) (e : Nat), e ≤ 16000 → 0 ≤ (numEnd l k t e).2.2.2.2 ∧ (numEnd l k t e).2.2.2.2 ≤ 16000 := fun k t e he => by
  unfold numEnd; split
  ·exact ⟨show (0 : Int) ≤ (e : Int) by omega, show (e : Int) ≤ 16000 by omega⟩
  ·exact ⟨Int.le_refl _, show (0 : Int) ≤ 16000 by decide⟩
 have z : ∀ (x : R), x.2.2.2.2 = 0 → 0 ≤ x.2.2.2.2 ∧ x.2.2.2.2 ≤ 16000 := fun x h => by rw [h]; decide
 have q : ∀ o, (quoF o).2.2.2.2 = 0 := fun o => by cases o with | none => rfl | some x => unfold quoF; simp only; split; rfl; split <;> rfl
 have x : ∀ o, (txtF o).2.2.2.2 = 0 := fun o => by cases o with | none => rfl | some x => unfold txtF; simp only; split; rfl; split <;> rfl
 unfold scanL
 split
 ·exact z _ (by unfold wrdF; split <;> rfl)
 ·split
  ·exact z _ (q _)
  ·split
   ·have hcl := cnt_le isDig l
    unfold scanNum
    simp only
    split
    ·split
     ·exact z _ rfl
     ·have := cnt_le isDig (l.drop (cnt isDig l + 1))
      rw [List.length_drop] at this
      exact ne _ _ _ (by omega)
    ·split
     ·exact z _ rfl
     ·exact ne _ _ _ (by omega)
   ·split
    ·exact z _ (x _)
    ·exact z _ (by cases sgnF signB l <;> rfl)
section
variable {s : ByteArray} {L : B} (hL : s.data.toList = L) (hs : L.length ≤ 1048576)
include hL hs
theorem sk_bl (at_ : Nat) (h : at_ < L.length) (k : Nat) : spec_l02Skip.l0 (k + 1) s at_ = spec_l02Skip.j1 k s at_ (isBl (L.getD at_ 0)) := by
 rw [spec_l02Skip.l0, if_pos (by rw [size_L hL]; omega), if_pos (by omega), bt_L hL h]
 obtain ⟨c, hc⟩ : ∃ c, L.getD at_ 0 = c := ⟨_, rfl⟩
 rw [hc]
 have e1 := n_eq c 32 32 rfl; have e2 := n_eq c 9 9 rfl; have e3 := n_eq c 10 10 rfl; have e4 := n_eq c 13 13 rfl
 by_cases h1 : c = 32
 ·rw [if_pos (e1.2 h1), h1]; rfl
 rw [if_neg (fun h9 => h1 (e1.1 h9))]
 by_cases h2 : c = 9
 ·rw [if_pos (e2.2 h2), h2]; rfl
 rw [if_neg (fun h9 => h2 (e2.1 h9))]
 by_cases h3 : c = 10
 ·rw [if_pos (e3.2 h3), h3]; rfl
 rw [if_neg (fun h9 => h3 (e3.1 h9))]
 by_cases h4 : c = 13
 ·rw [h4]; rfl
 have f1 : ((c.toNat : Int) == 13) = false := by rw [beq_eq_false_iff_ne]; exact fun h9 => h4 (e4.1 h9)
 have f2 : isBl c = false := by simp [isBl, h1, h2, h3, h4]
 rw [f1, f2]
theorem im_bl (at_ : Nat) (h : at_ < L.length) (acc : List S30) (k : Nat) : impl_Lex.l0 (k + 1) s acc at_ = impl_Lex.j1 k s acc at_ (isBl (L.getD at_ 0)) := by
 rw [impl_Lex.l0, if_pos (by rw [size_L hL]; omega), if_pos (by omega), bt_L hL h]
 obtain ⟨c, hc⟩ : ∃ c, L.getD at_ 0 = c := ⟨_, rfl⟩
 rw [hc]
 have e1 := n_eq c 32 32 rfl; have e2 := n_eq c 9 9 rfl; have e3 := n_eq c 10 10 rfl; have e4 := n_eq c 13 13 rfl
 by_cases h1 : c = 32
 ·rw [if_pos (e1.2 h1), h1]; rfl
 rw [if_neg (fun h9 => h1 (e1.1 h9))]
 by_cases h2 : c = 9
 ·rw [if_pos (e2.2 h2), h2]; rfl
 rw [if_neg (fun h9 => h2 (e2.1 h9))]
 by_cases h3 : c = 10
 ·rw [if_pos (e3.2 h3), h3]; rfl
 rw [if_neg (fun h9 => h3 (e3.1 h9))]
 by_cases h4 : c = 13
 ·rw [h4]; rfl
 have f1 : ((c.toNat : Int) == 13) = false := by rw [beq_eq_false_iff_ne]; exact fun h9 => h4 (e4.1 h9)
 have f2 : isBl c = false := by simp [isBl, h1, h2, h3, h4]
 rw [f1, f2]
theorem sk_cm (at_ : Nat) (h : at_ < L.length) (k : Nat) : spec_l02Skip.j1 (k + 1) s at_ false = spec_l02Skip.j2 k s at_ (decide (isCm L at_)) := by
 rw [spec_l02Skip.j1, if_neg (by simp), if_pos (by omega), if_pos (by rw [size_L hL]; omega), bt_L hL h, up1 at_ (by omega)]
 have e1 := n_eq (L.getD at_ 0) 45 45 rfl; have e2 := n_eq (L.getD (at_ + 1) 0) 45 45 rfl
 by_cases h1 : L.getD at_ 0 = 45
 ·rw [if_pos (e1.2 h1)]
  by_cases h2 : at_ + 1 < L.length
  ·rw [if_pos (by rw [size_L hL]; omega), if_pos (by omega), bt_L hL h2]
   congr 1
   by_cases h3 : L.getD (at_ + 1) 0 = 45
   ·rw [decide_eq_true (show isCm L at_ from ⟨h2, h1, h3⟩), beq_iff_eq]; exact e2.2 h3
   ·rw [decide_eq_false (fun h9 : isCm L at_ => h3 h9.2.2), beq_eq_false_iff_ne]; exact fun h9 => h3 (e2.1 h9)
  ·rw [if_neg (by rw [size_L hL]; omega), decide_eq_false (fun h9 : isCm L at_ => h2 h9.1)]
 ·rw [if_neg (fun h9 => h1 (e1.1 h9)), decide_eq_false (fun h9 : isCm L at_ => h1 h9.2.1)]
/-- Both are one step further on. -/
theorem pre_cm (at_ : Nat) (h : at_ < L.length) : Lib.hasPrefix (L.drop at_) [45, 45] = decide (isCm L at_) := by
 by_cases h1 : isCm L at_
 ·rw [decide_eq_true h1, pre_take, drop_cons L at_ h, drop_cons L (at_ + 1) h1.1, h1.2.1, h1.2.2]; simp
 ·rw [decide_eq_false h1]
  cases e : Lib.hasPrefix (L.drop at_) [45, 45]
  ·rfl
  ·exfalso
   have h2 := (pre_take _ _).1 e
   have h3 : at_ + 1 < L.length := by have := h2.1; rw [List.length_drop] at this; simp only [List.length_cons, List.length_nil] at this; omega
   rw [drop_cons L at_ h, drop_cons L (at_ + 1) h3] at h2
   have h4 := h2.2
   simp only [List.length_cons, List.length_nil, List.take_succ_cons, List.take_zero, List.cons.injEq, and_true] at h4
   exact h1 ⟨h3, h4.1, h4.2⟩
/-- What the program does at a place that is no blank. -/
def impRest (s : ByteArray) (acc : List S30) (at_ : Nat) (k : Nat) : Option ((List S30) × Int × Int) :=
 if (acc.length : Int) = 2000 then (some (([] : List (S30)), 5, (at_ : Int))) else ((impl_scan.f (s.extract at_ s.size)).bind fun bt212 => (if bt212.2.2.2.2.1 = 0 then (if acc.length < 4398046511104 then (impl_Lex.l0 k s (acc ++ [(⟨bt212.1, bt212.2.1, (at_ : Int)⟩ : S30)]) (wrap64 ((at_ : Int) + bt212.2.2.2.1))) else (none)) else (some (([] : List (S30)), bt212.2.2.2.2.1, wrap64 ((at_ : Int) + bt212.2.2.2.2.2)))))
theorem im_cm (at_ : Nat) (h : at_ < L.length) (acc : List S30) (k : Nat) : impl_Lex.j1 (k + 1) s acc at_ false = if isCm L at_ then impl_Lex.l1 k s acc at_ else impRest s acc at_ k := by
 have hp : strings_HasPrefix.f (s.extract (at_ : Int).toNat s.size) (⟨#[45, 45]⟩ : ByteArray) = some (decide (isCm L at_)) := by
  show Go.Proofs.YtackifpnpkbddaaDoor.QScan.strings_HasPrefix.f _ _ = _
  rw [prefix_f, Int.toNat_natCast, Lib.extract_to_end, hL]
  exact congrArg some (pre_cm hL hs at_ h)
 rw [impl_Lex.j1, if_neg (by simp), if_pos (by omega), if_pos (by rw [size_L hL]; omega), hp, Option.bind_some, Int.toNat_natCast]
 by_cases h1 : isCm L at_
 ·rw [if_pos (decide_eq_true h1), if_pos h1]
 ·rw [if_neg (by rw [decide_eq_false h1]; simp), if_neg h1]; rfl
theorem sk_l1 (at_ : Nat) (h : at_ < L.length) (k : Nat) : spec_l02Skip.l1 (k + 1) s at_ = if L.getD at_ 0 = 10 then spec_l02Skip.l0 k s at_ else spec_l02Skip.l1 k s ((at_ + 1 : Nat) : Int) := by
 have e1 := n_eq (L.getD at_ 0) 10 10 rfl
 rw [spec_l02Skip.l1, if_pos (by rw [size_L hL]; omega), if_pos (by omega), bt_L hL h, up1 at_ (by omega)]
 by_cases h1 : L.getD at_ 0 = 10
 ·rw [if_pos (e1.2 h1), if_pos h1]
 ·rw [if_neg (fun h9 => h1 (e1.1 h9)), if_neg h1]
theorem im_l1 (at_ : Nat) (h : at_ < L.length) (acc : List S30) (k : Nat) : impl_Lex.l1 (k + 1) s acc at_ = if L.getD at_ 0 = 10 then impl_Lex.l0 k s acc at_ else impl_Lex.l1 k s acc ((at_ + 1 : Nat) : Int) := by
 have e1 := n_eq (L.getD at_ 0) 10 10 rfl
 rw [impl_Lex.l1, if_pos (by rw [size_L hL]; omega), if_pos (by omega), bt_L hL h, up1 at_ (by omega)]
 by_cases h1 : L.getD at_ 0 = 10
 ·rw [if_pos (e1.2 h1), if_pos h1]
 ·rw [if_neg (fun h9 => h1 (e1.1 h9)), if_neg h1]
/-- Nothing to be left out stands here. -/
def Stands (L : B) (a : Nat) : Prop := a ≤ L.length ∧ (a < L.length → isBl (L.getD a 0) = false ∧ ¬ isCm L a)
def Joint0 (s : ByteArray) (L : B) (a b : Nat) : Prop := Ev (fun k => spec_l02Skip.l0 k s a) (b : Int) ∧ ∀ acc r, Ev (fun k => impl_Lex.l0 k s acc b) r → Ev (fun k => impl_Lex.l0 k s acc a) r
def Joint1 (s : ByteArray) (L : B) (a b : Nat) : Prop := Ev (fun k => spec_l02Skip.l1 k s a) (b : Int) ∧ ∀ acc r, Ev (fun k => impl_Lex.l0 k s acc b) r → Ev (fun k => impl_Lex.l1 k s acc a) r
theorem skip_both : ∀ (n a : Nat), a + n = L.length → (∃ b, a ≤ b ∧ Stands L b ∧ Joint0 s L a b) ∧ (∃ b, a ≤ b ∧ Stands L b ∧ Joint1 s L a b)
 | 0, a, h => by
  have h0 : Joint0 s L a a := ⟨Ev.succ (Ev.now _) (fun k => by rw [spec_l02Skip.l0, if_neg (by rw [size_L hL]; omega)]), fun acc r h9 => h9⟩
  have hst : Stands L a := ⟨by omega, fun h9 => absurd h9 (by omega)⟩
  refine ⟨⟨a, Nat.le_refl _, hst, h0⟩, ⟨a, Nat.le_refl _, hst, ?_, fun acc r h9 => ?_⟩⟩
  ·exact Ev.succ h0.1 (fun k => by rw [spec_l02Skip.l1, if_neg (by rw [size_L hL]; omega)])
  ·exact Ev.succ h9 (fun k => by rw [impl_Lex.l1, if_neg (by rw [size_L hL]; omega)])
 | n + 1, a, h => by
  have hlt : a < L.length := by omega
  obtain ⟨⟨b0, hb0, hs0, hj0⟩, ⟨b1, hb1, hs1, hj1⟩⟩ := skip_both n (a + 1) (by omega)
  have hu := up1 a (by omega)
  -- a comment's byte that does not end the line
  have far : L.getD a 0 ≠ 10 → Joint1 s L a b1 := fun h9 => ⟨Ev.succ hj1.1 (fun k => by rw [sk_l1 hL hs a hlt, if_neg h9]), fun acc r h8 => Ev.succ (hj1.2 acc r h8) (fun k => by rw [im_l1 hL hs a hlt, if_neg h9])⟩
  have zero : ∃ b, a ≤ b ∧ Stands L b ∧ Joint0 s L a b := by
   cases hb : isBl (L.getD a 0)
   ·by_cases hc : isCm L a
    ·have h9 : L.getD a 0 ≠ 10 := by rw [hc.2.1]; decide
     have hf := far h9
     refine ⟨b1, by omega, hs1, ?_, fun acc r h8 => ?_⟩
     ·refine Ev.succ (g := fun k => spec_l02Skip.j1 k s a false) ?_ (fun k => by rw [sk_bl hL hs a hlt, hb])
      refine Ev.succ (g := fun k => spec_l02Skip.j2 k s a true) ?_ (fun k => by rw [sk_cm hL hs a hlt, decide_eq_true hc])
      exact Ev.succ hf.1 (fun k => by rw [spec_l02Skip.j2, if_pos rfl])
     ·refine Ev.succ (g := fun k => impl_Lex.j1 k s acc a false) ?_ (fun k => by rw [im_bl hL hs a hlt, hb])
      exact Ev.succ (hf.2 acc r h8) (fun k => by rw [im_cm hL hs a hlt, if_pos hc])
    ·refine ⟨a, Nat.le_refl _, ⟨by omega, fun _ => ⟨hb, hc⟩⟩, ?_, fun acc r h8 => h8⟩
     refine Ev.succ (g := fun k => spec_l02Skip.j1 k s a false) ?_ (fun k => by rw [sk_bl hL hs a hlt, hb])
     refine Ev.succ (g := fun k => spec_l02Skip.j2 k s a false) ?_ (fun k => by rw [sk_cm hL hs a hlt, decide_eq_false hc])
     exact Ev.succ (Ev.now _) (fun k => by rw [spec_l02Skip.j2, if_neg (by simp)])
   ·refine ⟨b0, by omega, hs0, ?_, fun acc r h8 => ?_⟩
    ·refine Ev.succ (g := fun k => spec_l02Skip.j1 k s a true) ?_ (fun k => by rw [sk_bl hL hs a hlt, hb])
     exact Ev.succ hj0.1 (fun k => by rw [spec_l02Skip.j1, if_pos rfl, hu])
    ·refine Ev.succ (g := fun k => impl_Lex.j1 k s acc a true) ?_ (fun k => by rw [im_bl hL hs a hlt, hb])
     exact Ev.succ (hj0.2 acc r h8) (fun k => by rw [impl_Lex.j1, if_pos rfl, hu])
  refine ⟨zero, ?_⟩
  by_cases h9 : L.getD a 0 = 10
  ·obtain ⟨b, hb, hst, hj⟩ := zero
   exact ⟨b, hb, hst, Ev.succ hj.1 (fun k => by rw [sk_l1 hL hs a hlt, if_pos h9]), fun acc r h8 => Ev.succ (hj.2 acc r h8) (fun k => by rw [im_l1 hL hs a hlt, if_pos h9])⟩
  ·exact ⟨b1, by omega, hs1, far h9⟩
/-- Both loops over tokens, from a place where a token stands (or the end). -/
theorem toks_both (h8 : L.length ≤ 8000) : ∀ (n a : Nat) (acc : List S30), L.length - a ≤ n → Stands L a → acc.length ≤ a → acc.length ≤ 2000 →
  ∃ r : (List S30) × Int × Int, Ev (fun k => spec_Lex.l0 k s acc a) r ∧ Ev (fun k => impl_Lex.l0 k s acc a) r ∧ r.1.length ≤ 2000
 | n, a, acc, h, hst, ha, h2 => by
  by_cases hlt : a < L.length
  ·obtain ⟨g, rfl⟩ : ∃ g, n = g + 1 := ⟨n - 1, by omega⟩
   obtain ⟨hb, hc⟩ := hst.2 hlt
   have him : ∀ r, Ev (impRest s acc a) r → Ev (fun k => impl_Lex.l0 k s acc a) r := fun r h9 => by
    refine Ev.succ (g := fun k => impl_Lex.j1 k s acc a false) ?_ (fun k => by rw [im_bl hL hs a hlt, hb])
    exact Ev.succ h9 (fun k => by rw [im_cm hL hs a hlt, if_neg hc])
   by_cases hm : (acc.length : Int) = 2000
   ·refine ⟨([], 5, (a : Int)), Ev.succ (Ev.now _) (fun k => ?_), him _ (Ev.eq (Ev.now _) (fun k => ?_)), by simp⟩
    ·rw [spec_Lex.l0, if_pos (by rw [size_L hL]; omega), if_pos hm]
    ·unfold impRest; rw [if_pos hm]
   ·have ht := token_told hL hs a hlt
    obtain ⟨R0, hR⟩ : ∃ R0, scanL (L.drop a) = R0 := ⟨_, rfl⟩
    have hsc : impl_scan.f (s.extract a s.size) = some (R0.1, ⟨R0.2.1.toArray⟩, 0, R0.2.2.1, R0.2.2.2.1, R0.2.2.2.2) := by
     unfold impl_scan.f
     rw [if_pos ⟨by rw [size_len, Lib.extract_to_end, hL, List.length_drop]; omega, by rw [size_len, Lib.extract_to_end, hL, List.length_drop]; omega⟩, Lib.extract_to_end, hL, hR]
    have hsp : ∀ r, Ev (fun k => if (conv a R0).2.2.2.2.1 = 0 then (if acc.length < 4398046511104 then ((spec_l02Skip.f k s (conv a R0).2.2.2.1).bind fun t206 => (spec_Lex.l0 k s (acc ++ [(⟨(conv a R0).1, (conv a R0).2.1, (conv a R0).2.2.1⟩ : S30)]) t206)) else (none)) else (some ((([] : List (S30))), (conv a R0).2.2.2.2.1, (conv a R0).2.2.2.2.2))) r → Ev (fun k => spec_Lex.l0 k s acc a) r := fun r h9 => by
     rw [hR] at ht
     exact Ev.succ (Ev.bind (g := fun k bt196 => (if bt196.2.2.2.2.1 = 0 then (if acc.length < 4398046511104 then ((spec_l02Skip.f k s bt196.2.2.2.1).bind fun t206 => (spec_Lex.l0 k s (acc ++ [(⟨bt196.1, bt196.2.1, bt196.2.2.1⟩ : S30)]) t206)) else (none)) else (some ((([] : List (S30))), bt196.2.2.2.2.1, bt196.2.2.2.2.2)))) ht h9) (fun k => by rw [spec_Lex.l0, if_pos (by rw [size_L hL]; omega), if_neg hm])
    have hres : ∀ k, impRest s acc a k = if R0.2.2.2.1 = 0 then (if acc.length < 4398046511104 then (impl_Lex.l0 k s (acc ++ [(⟨R0.1, ⟨R0.2.1.toArray⟩, (a : Int)⟩ : S30)]) (wrap64 ((a : Int) + R0.2.2.1))) else none) else (some (([] : List (S30)), R0.2.2.2.1, wrap64 ((a : Int) + R0.2.2.2.2))) := fun k => by
     unfold impRest; rw [if_neg hm, hsc, Option.bind_some]
    by_cases h0 : R0.2.2.2.1 = 0
    ·obtain ⟨n, hn, hn1, hn2⟩ := scan_len (L.drop a) (by rw [List.length_drop]; omega) (by rw [hR]; exact h0)
     rw [hR] at hn
     rw [List.length_drop] at hn2
     have hcv : conv a R0 = (R0.1, ⟨R0.2.1.toArray⟩, (a : Int), ((a + n : Nat) : Int), 0, 0) := by
      unfold conv; rw [if_pos h0, hn]; rfl
     obtain ⟨⟨b, hab, hsb, hjb⟩, _⟩ := skip_both hL hs (L.length - (a + n)) (a + n) (by omega)
     obtain ⟨r, hr1, hr2, hr3⟩ := toks_both h8 g b (acc ++ [(⟨R0.1, ⟨R0.2.1.toArray⟩, (a : Int)⟩ : S30)]) (by omega) hsb (by rw [List.length_append, List.length_singleton]; omega) (by rw [List.length_append, List.length_singleton]; omega)
     refine ⟨r, hsp r ?_, him r ?_, hr3⟩
     ·rw [hcv]
      refine Ev.eq (g := fun k => (spec_l02Skip.f k s ((a + n : Nat) : Int)).bind fun t206 => (spec_Lex.l0 k s (acc ++ [(⟨R0.1, ⟨R0.2.1.toArray⟩, (a : Int)⟩ : S30)]) t206)) (Ev.bind hjb.1 hr1) (fun k => ?_)
      show (if (0 : Int) = 0 then (if acc.length < 4398046511104 then _ else none) else _) = _
      rw [if_pos rfl, if_pos (by omega)]
     ·refine Ev.eq (hjb.2 _ r hr2) (fun k => ?_)
      rw [hres, if_pos h0, if_pos (by omega), hn, up a n (by omega)]
    ·have hcv : conv a R0 = (0, ⟨#[]⟩, 0, 0, R0.2.2.2.1, (a : Int) + R0.2.2.2.2) := by unfold conv; rw [if_neg h0]
     have hw := scan_err (L.drop a) (by rw [List.length_drop]; omega) (by rw [List.length_drop]; omega)
     rw [hR] at hw
     have hwr : wrap64 ((a : Int) + R0.2.2.2.2) = (a : Int) + R0.2.2.2.2 := by unfold wrap64; omega
     refine ⟨([], R0.2.2.2.1, (a : Int) + R0.2.2.2.2), hsp _ ?_, him _ ?_, by simp⟩
     ·rw [hcv]; exact Ev.eq (Ev.now _) (fun k => if_neg h0)
     ·exact Ev.eq (Ev.now _) (fun k => by rw [hres, if_neg h0, hwr])
  ·have hne : ¬ ((a : Int) < (s.size : Int)) := by rw [size_L hL]; omega
   exact ⟨(acc, 0, 0), Ev.succ (Ev.now _) (fun k => by rw [spec_Lex.l0, if_neg hne]), Ev.succ (Ev.now _) (fun k => by rw [impl_Lex.l0, if_neg hne]), h2⟩
/-- Both answer alike. -/
theorem lex_both : ∃ r : (List S30) × Int × Int, Ev (fun k => spec_Lex.f k s) r ∧ Ev (fun k => impl_Lex.f k s) r ∧ r.1.length ≤ 2000 := by
 by_cases h8 : (s.size : Int) > 8000
 ·exact ⟨([], 5, 0), Ev.eq (Ev.now _) (fun k => if_pos h8), Ev.eq (Ev.now _) (fun k => if_pos h8), by simp⟩
 ·have hl : L.length ≤ 8000 := by rw [← size_L hL]; omega
  obtain ⟨⟨b, hab, hsb, hjb⟩, _⟩ := skip_both hL hs L.length 0 (by omega)
  obtain ⟨r, hr1, hr2, hr3⟩ := toks_both hL hs hl L.length b [] (by omega) hsb (by simp) (by simp)
  refine ⟨r, ?_, ?_, hr3⟩
  ·exact Ev.eq (g := fun k => (spec_l02Skip.f k s 0).bind fun t192 => (spec_Lex.l0 k s (([] : List (S30))) t192)) (Ev.bind hjb.1 hr1) (fun k => if_neg h8)
  ·exact Ev.eq (hjb.2 [] r hr2) (fun k => if_neg h8)
end
end Go.Proofs.YtackifpnpkbddaaDoor.PureLex
