/- Proved: for every list of tokens that fits into memory the program's Unlex and the reference's Unlex answer alike, and the law's checks hold. No other conditions. -/
import Derived.Test.YtackifpnpkbddaaGreatDoorPureUxC
set_option linter.unusedVariables false
set_option linter.unusedSimpArgs false
namespace Go.Proofs.YtackifpnpkbddaaGreatDoor.PureFnExactUnlex
open Go.RowKit Go.Lib Go.Proofs.YtackifpnpkbddaaGreatDoor.QFnExactUnlex Go.Proofs.YtackifpnpkbddaaGreatDoorScan Go.Proofs.YtackifpnpkbddaaGreatDoor.PureUx
open Go.Proofs.YtackifpnpkbddaaGreatDoorW.PrintWords hiding Ev Ev.bind Ev.congr Ev.now Ev.of Ev.rounds Ev.step
open Go.Proofs.YtackifpnpkbddaaGreatDoorW.PrintLast hiding up
theorem eqv_loop (l : List S35) (hl : l.length ≤ 1100000) : ∀ (n i : Nat), i + n = l.length → laws_eqTokenS.l0 (n + 1) l l (i : Int) = some true := by
 intro n
 induction n with
 | zero =>
  intro i hi
  simp only [laws_eqTokenS.l0]
  rw [if_neg (by omega)]
 | succ n ih =>
  intro i hi
  obtain ⟨q, hq⟩ : ∃ q, q = n + 1 := ⟨_, rfl⟩
  rw [← hq] at ih ⊢
  simp only [laws_eqTokenS.l0, laws_eqToken.f]
  rw [if_pos (by omega), if_pos (by omega), if_pos (by omega), if_pos trivial, if_pos trivial, if_pos trivial, Option.bind_some, if_pos rfl, up1 i (by omega)]
  exact ih (i + 1) (by omega)
theorem eqv_told (l : List S35) (hl : l.length ≤ 1100000) : Ev (fun k => laws_eqTokenS.f k l l) true := by
 refine Ev.of (laws_eqTokenS.mono l l) ⟨l.length + 1, ?_⟩
 unfold laws_eqTokenS.f
 rw [if_pos rfl]
 exact eqv_loop l hl l.length 0 (by omega)
theorem rd38 (l : List S38) (i : Nat) : rd_T38 l (i : Int) = l.getD i z38 := by unfold rd_T38; rw [Int.toNat_natCast]
theorem sz_loop (l : List S38) (hl : l.length ≤ 1048576) (hb : ∀ i, i < l.length → (l.getD i z38).f1.size ≤ 140737488351232) : ∀ (n i : Nat) (x1 : Int), i + n = l.length → 0 ≤ x1 → x1 ≤ 1048576 → (∀ j, j < i → (l.getD j z38).f1.size ≤ 1048576) →
  ∃ v : Int, Ev (fun k => laws_szTokenS.l0 k l x1 i) v ∧ (v < 0 ∨ (0 ≤ v ∧ ∀ j, j < l.length → (l.getD j z38).f1.size ≤ 1048576)) := by
 intro n
 induction n with
 | zero =>
  intro i x1 hi h0 h1 hj
  refine ⟨x1, Ev.succ (Ev.now _) (fun k => ?_), .inr ⟨h0, fun j h => hj j (by omega)⟩⟩
  rw [laws_szTokenS.l0, if_neg (by omega)]
 | succ n ih =>
  intro i x1 hi h0 h1 hj
  have hlt : i < l.length := by omega
  have hs := hb i hlt
  have hw : wrap64 (x1 - ((l.getD i z38).f1.size : Int)) = x1 - ((l.getD i z38).f1.size : Int) := by unfold wrap64; omega
  by_cases c : x1 - ((l.getD i z38).f1.size : Int) < 0
  ·refine ⟨-1, Ev.succ (Ev.now _) (fun k => ?_), .inl (by decide)⟩
   rw [laws_szTokenS.l0, if_pos (by omega), if_pos (by omega), rd38]
   unfold laws_szToken.f
   rw [hw, if_pos c, Option.bind_some, if_pos (by decide)]
  ·obtain ⟨v, h2, h3⟩ := ih (i + 1) (x1 - ((l.getD i z38).f1.size : Int)) (by omega) (by omega) (by omega) (fun j h => by
    by_cases e : j = i
    ·subst e; omega
    ·exact hj j (by omega))
   refine ⟨v, Ev.succ h2 (fun k => ?_), h3⟩
   rw [laws_szTokenS.l0, if_pos (by omega), if_pos (by omega), rd38]
   unfold laws_szToken.f
   rw [hw, if_neg c, Option.bind_some, if_neg c, up1 i (by omega)]
theorem sz_told (l : List S38) (hl : l.length ≤ 281474976710656) (hb : ∀ i, i < l.length → (l.getD i z38).f1.size ≤ 140737488351232) :
  ∃ v : Int, Ev (fun k => laws_szTokenS.f k l 1048576) v ∧ (v < 0 ∨ (0 ≤ v ∧ l.length ≤ 1048576 ∧ ∀ j, j < l.length → (l.getD j z38).f1.size ≤ 1048576)) := by
 have hw : wrap64 (1048576 - (l.length : Int)) = 1048576 - (l.length : Int) := by unfold wrap64; omega
 by_cases c : 1048576 - (l.length : Int) < 0
 ·exact ⟨-1, Ev.eq (Ev.now _) (fun k => by unfold laws_szTokenS.f; rw [hw, if_pos c]), .inl (by decide)⟩
 ·obtain ⟨v, h1, h2⟩ := sz_loop l (by omega) hb l.length 0 (1048576 - (l.length : Int)) (by omega) (by omega) (by omega) (fun j h => absurd h (Nat.not_lt_zero _))
  refine ⟨v, Ev.eq h1 (fun k => by unfold laws_szTokenS.f; rw [hw, if_neg c]; rfl), ?_⟩
  rcases h2 with h2 | h2
  ·exact .inl h2
  ·exact .inr ⟨h2.1, by omega, h2.2⟩
/-- A token of the law's own type as one of the program's. -/
def cv (x : S38) : S35 := ⟨x.f0, x.f1, x.f2⟩
theorem to_loop (l : List S38) (hl : l.length ≤ 1048576) : ∀ (n i : Nat) (x : List S35), i + n = l.length → x.length = l.length → x.take i = (l.map cv).take i → laws_toTokenS.l0 (n + 1) l x (i : Int) = some (l.map cv) := by
 intro n
 induction n with
 | zero =>
  intro i x hi hx ht
  rw [laws_toTokenS.l0, if_neg (by omega)]
  rw [List.take_of_length_le (by omega), List.take_of_length_le (by rw [List.length_map]; omega)] at ht
  rw [ht]
 | succ n ih =>
  intro i x hi hx ht
  have hlt : i < l.length := by omega
  rw [laws_toTokenS.l0, if_pos (by omega), if_pos (by omega), rd38]
  unfold laws_toToken.f
  rw [Option.bind_some, if_pos (by omega), Int.toNat_natCast, up1 i (by omega)]
  refine ih (i + 1) _ (by omega) (by rw [List.length_set, hx]) ?_
  show (x.set i (cv (l.getD i z38))).take (i + 1) = (l.map cv).take (i + 1)
  have e : (l.map cv)[i]? = some (cv (l.getD i z38)) := by simp [List.getD, hlt]
  have e2 : (x.set i (cv (l.getD i z38)))[i]? = some (cv (l.getD i z38)) := by rw [List.getElem?_set_self (by omega)]
  have e3 : (x.set i (cv (l.getD i z38))).take i = x.take i := by rw [List.take_set_of_le (Nat.le_refl _)]
  rw [List.take_add_one, List.take_add_one, e, e2, e3, ht]
theorem to_told (l : List S38) (hl : l.length ≤ 1048576) : Ev (fun k => laws_toTokenS.f k l) (l.map cv) := by
 refine Ev.of (fun k => laws_toTokenS.mono l k) ⟨l.length + 1, ?_⟩
 unfold laws_toTokenS.f
 rw [if_pos (by omega), Int.toNat_natCast, if_pos (by omega)]
 exact to_loop l hl l.length 0 _ (by omega) (by simp) (by simp)
theorem FnExactUnlex (l : List S38) (hl : l.length ≤ 281474976710656) (hb : ∀ i, i < l.length → (l.getD i z38).f1.size ≤ 140737488351232) : ∃ k, laws_FnExactUnlex.f k l = some true := by
 suffices h : Ev (fun k => laws_FnExactUnlex.f k l) true by
  obtain ⟨k, hk⟩ := h
  exact ⟨k, hk k (Nat.le_refl _)⟩
 obtain ⟨v, hv, hcase⟩ := sz_told l hl hb
 refine Ev.bind hv ?_
 rcases hcase with h | ⟨h0, h1, h2⟩
 ·exact Ev.eq (Ev.now true) (fun k => if_pos h)
 refine Ev.eq (r := true) ?_ (fun k => if_neg (by omega))
 have ht := to_told l h1
 obtain ⟨hs, hi⟩ := unlex_both (l.map cv) (fun i h => by
  rw [List.length_map] at h
  have e : (l.map cv).getD i z35 = cv (l.getD i z38) := by simp [List.getD, h]
  rw [e]; exact h2 i h)
 have hq := eqv_told (l.map cv) (by rw [List.length_map]; omega)
 have he : ∀ x : ByteArray × Int, (x.2 != x.2) = false := fun x => by simp
 refine Ev.bind ht (Ev.bind hs (Ev.bind ht (Ev.bind hi ?_)))
 refine Ev.eq (r := true) ?_ (fun k => if_pos rfl)
 rw [he]
 refine Ev.succ (g := _) (Ev.bind ht (Ev.bind hq ?_)) (fun k => by rw [laws_FnExactUnlex.j0, if_neg (by simp)])
 exact Ev.eq (Ev.now true) (fun k => if_pos rfl)
end Go.Proofs.YtackifpnpkbddaaGreatDoor.PureFnExactUnlex
