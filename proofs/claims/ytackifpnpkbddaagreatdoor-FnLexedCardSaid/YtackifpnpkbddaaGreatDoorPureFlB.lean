/- Proved: the reference's Unlex and the program's Unlex answer alike. -/
import Derived.Test.YtackifpnpkbddaaGreatDoorPureFlA
import Derived.Lib.Join
set_option linter.unusedVariables false
set_option linter.unusedSimpArgs false
set_option linter.unusedSectionVars false
namespace Go.Proofs.YtackifpnpkbddaaGreatDoor.PureFl
open Go.RowKit Go.Lib Go.Proofs.YtackifpnpkbddaaGreatDoor.QFnLexed Go.Proofs.YtackifpnpkbddaaGreatDoorScan Go.Proofs.YtackifpnpkbddaaGreatDoor.CharsFl
open Go.Proofs.YtackifpnpkbddaaGreatDoorW.PrintWords hiding Ev Ev.bind Ev.congr Ev.now Ev.of Ev.rounds Ev.step 
open Go.Proofs.YtackifpnpkbddaaGreatDoorW.PrintLast hiding up
section
variable {s : ByteArray} {L : B} (hL : s.data.toList = L) (hs : L.length ≤ 1048576)
include hL hs
theorem sgnOK_told (k : Nat) (hk : spec_l02SignAt.f k s 0 = some (sgO (sgnF signB L))) :
  (if (s.size : Int) > 0 then (if (s.size : Int) ≤ 2 then (if s.toList = ([33, 61] : List UInt8) then (some false) else ((spec_l02SignAt.f k s 0).bind fun t166 => (some (t166.toList == s.toList)))) else (some false)) else (some false)) = some (sgnOK L) := by
 unfold sgnOK
 rw [ByteArray.toList_eq, hL, hk, Option.bind_some]
 by_cases h1 : (s.size : Int) > 0
 ·rw [if_pos h1]
  rw [size_L hL] at h1
  by_cases h2 : (s.size : Int) ≤ 2
  ·rw [if_pos h2]
   rw [size_L hL] at h2
   by_cases h3 : L = [33, 61]
   ·rw [if_pos h3, decide_eq_false (fun h9 => h9.2.2 h3)]; rfl
   ·rw [if_neg h3, decide_eq_true (show 1 ≤ L.length ∧ L.length ≤ 2 ∧ L ≠ [33, 61] from ⟨by omega, by omega, h3⟩), Bool.true_and]
    congr 1
    cases e : sgnF signB L with
    | none =>
     show ((⟨#[]⟩ : ByteArray).toList == L) = _
     rw [show (⟨#[]⟩ : ByteArray).toList = [] from by rw [ByteArray.toList_eq]]
     cases L with
     | nil => simp at h1
     | cons a b => rfl
    | some g =>
     show ((⟨g.toArray⟩ : ByteArray).toList == L) = _
     rw [toList_mk, Bool.eq_iff_iff]
     simp
  ·rw [if_neg h2, decide_eq_false (fun h9 => h2 (by rw [size_L hL]; have := h9.2.1; omega))]; rfl
 ·rw [if_neg h1, decide_eq_false (fun h9 => h1 (by rw [size_L hL]; have := h9.1; omega))]; rfl
theorem okS_told (k0 a2 : Int) : Ev (fun k => spec_l02TokenOK.f k k0 s a2) (okS k0 L) := by
 unfold okS
 by_cases h1 : k0 = 1
 ·rw [if_pos h1]
  exact Ev.eq (g := fun k => (spec_l02IsWord.f k s).bind fun t162 => some t162) (Ev.bind (word_told hL hs) (Ev.now _)) (fun k => if_pos h1)
 rw [if_neg h1]
 by_cases h2 : k0 = 2
 ·rw [if_pos h2]
  exact Ev.eq (g := fun k => (spec_l02IsName.f k s).bind fun t163 => some t163) (Ev.bind (name_told hL hs) (Ev.now _)) (fun k => (if_neg h1).trans (if_pos h2))
 rw [if_neg h2]
 have jy : ∀ k, spec_l02TokenOK.j0 (k + 1) k0 true k0 s a2 = some (numOK k0 L) := fun k => by rw [spec_l02TokenOK.j0, if_pos rfl, num_told hL hs]; rfl
 by_cases h3 : k0 = 3
 ·rw [if_pos (.inl h3)]
  refine Ev.eq (g := fun k => spec_l02TokenOK.j0 k k0 true k0 s a2) (Ev.succ (Ev.now _) jy) (fun k => ?_)
  unfold spec_l02TokenOK.f
  rw [if_neg h1, if_neg h2, if_pos h3, show (k0 == 3) = true from beq_iff_eq.2 h3]
 by_cases h4 : k0 = 4
 ·rw [if_pos (.inr h4)]
  refine Ev.eq (g := fun k => spec_l02TokenOK.j0 k k0 true k0 s a2) (Ev.succ (Ev.now _) jy) (fun k => ?_)
  unfold spec_l02TokenOK.f
  rw [if_neg h1, if_neg h2, if_neg h3, show (k0 == 4) = true from beq_iff_eq.2 h4]
 rw [if_neg (by rintro (h | h); exact h3 h; exact h4 h)]
 have hj : ∀ v, Ev (fun k => spec_l02TokenOK.j0 k k0 false k0 s a2) v → Ev (fun k => spec_l02TokenOK.f k k0 s a2) v := fun v hv => Ev.eq hv (fun k => by
  unfold spec_l02TokenOK.f
  rw [if_neg h1, if_neg h2, if_neg h3, show (k0 == 4) = false from beq_eq_false_iff_ne.2 h4])
 by_cases h5 : k0 = 5
 ·rw [if_pos h5]
  exact hj _ (Ev.succ (g := fun k => (spec_ValueOK.f k 3 0 s).bind fun t165 => some t165) (Ev.bind (txt_told hL hs) (Ev.now _)) (fun k => by rw [spec_l02TokenOK.j0, if_neg (by simp), if_pos h5]))
 rw [if_neg h5]
 by_cases h6 : k0 = 6
 ·rw [if_pos h6]
  obtain ⟨k1, hk1⟩ := sgn_told hL hs 0 (by omega)
  rw [List.drop_zero] at hk1
  refine hj _ ⟨k1 + 1, fun m hm => ?_⟩
  obtain ⟨m, rfl⟩ : ∃ z, m = z + 1 := ⟨m - 1, by omega⟩
  show spec_l02TokenOK.j0 (m + 1) k0 false k0 s a2 = _
  rw [spec_l02TokenOK.j0, if_neg (by simp), if_neg h5, if_pos h6]
  exact sgnOK_told hL hs m (hk1 m (by omega))
 ·rw [if_neg h6]
  exact hj _ (Ev.succ (Ev.now _) (fun k => by rw [spec_l02TokenOK.j0, if_neg (by simp), if_neg h5, if_neg h6]))
theorem back_told (k0 : Int) (w : ByteArray) (hw : w.data.toList = wr k0 L) (h0 : 0 < w.size) :
  ((impl_scan.f w).bind fun bt229 => (if bt229.2.2.2.2.1 = 0 then (if bt229.2.2.2.1 = (w.size : Int) then (if bt229.1 = k0 then (some (bt229.2.1.toList == s.toList)) else (some false)) else (some false)) else (some false))) = some (backOK k0 L) := by
 have hl := wr_len k0 L
 have hsz : w.size = (wr k0 L).length := by rw [size_len, hw]
 unfold impl_scan.f backOK
 have hsl : s.toList = L := by rw [ByteArray.toList_eq, hL]
 rw [if_pos ⟨h0, by omega⟩, Option.bind_some, hw]
 obtain ⟨R0, hR⟩ : ∃ R0, scanL (wr k0 L) = R0 := ⟨_, rfl⟩
 rw [hR, hsl]
 show (if R0.2.2.2.1 = 0 then (if R0.2.2.1 = (w.size : Int) then (if R0.1 = k0 then some ((⟨R0.2.1.toArray⟩ : ByteArray).toList == L) else some false) else some false) else some false) = _
 rw [toList_mk, hsz]
 by_cases h1 : R0.2.2.2.1 = 0
 ·by_cases h2 : R0.2.2.1 = ((wr k0 L).length : Int)
  ·by_cases h3 : R0.1 = k0
   ·rw [if_pos h1, if_pos h2, if_pos h3]
    by_cases h5 : R0.2.1 = L
    ·rw [beq_iff_eq.2 h5, decide_eq_true ⟨h1, h2, h3, h5⟩]
    ·rw [beq_eq_false_iff_ne.2 h5, decide_eq_false (fun h9 => h5 h9.2.2.2)]
   ·rw [if_pos h1, if_pos h2, if_neg h3, decide_eq_false (fun h9 => h3 h9.2.2.1)]
  ·rw [if_pos h1, if_neg h2, decide_eq_false (fun h9 => h2 h9.2.1)]
 ·rw [if_neg h1, decide_eq_false (fun h9 => h1 h9.1)]
theorem okI_told (k0 a2 : Int) : Ev (fun k => impl_tokenOK.f k k0 s a2) (okI k0 L) := by
 have jy : ∀ k, impl_tokenOK.j0 (k + 1) true k0 s a2 = some false := fun k => by rw [impl_tokenOK.j0, if_pos rfl]
 have no : okI k0 L = false → (∀ k, impl_tokenOK.f k k0 s a2 = impl_tokenOK.j0 k true k0 s a2) → Ev (fun k => impl_tokenOK.f k k0 s a2) (okI k0 L) := fun h9 h8 => by
  rw [h9]; exact Ev.eq (g := fun k => impl_tokenOK.j0 k true k0 s a2) (Ev.succ (Ev.now _) jy) h8
 have hsl : s.toList = L := by rw [ByteArray.toList_eq, hL]
 have jn : ¬ wr k0 L = [] → ∀ k, impl_tokenOK.j0 (k + 1) false k0 s a2 = some ((decide (k0 ≠ 6) || startOK L) && backOK k0 L) := fun hne k => by
  have hpos : 0 < (wr k0 L).length := List.length_pos_iff.2 hne
  obtain ⟨w, hw⟩ : ∃ w : ByteArray, (⟨(wr k0 L).toArray⟩ : ByteArray) = w := ⟨_, rfl⟩
  have hwd : w.data.toList = wr k0 L := by rw [← hw, data_mk]
  have hws : 0 < w.size := by rw [size_len, hwd]; exact hpos
  have hb := back_told hL hs k0 w hwd hws
  rw [impl_tokenOK.j0, if_neg (by simp), written_told hL hs, hw, Option.bind_some, if_neg (by rw [ByteArray.toList_eq, hwd]; exact hne), if_pos (by omega)]
  by_cases h6 : k0 = 6
  ·have hwr : wr k0 L = L := by subst h6; rfl
   rw [hwr] at hwd hpos
   have hbt : bt w (0 : Int) = ((L.getD 0 0).toNat : Int) := bt_L hwd (i := 0) hpos
   have n34 : ((L.getD 0 0).toNat : Int) = 34 ↔ L.getD 0 0 = 34 := ⟨fun h9 => UInt8.toNat_inj.1 (show (L.getD 0 0).toNat = 34 by omega), fun h9 => by rw [h9]; rfl⟩
   have n39 : ((L.getD 0 0).toNat : Int) = 39 ↔ L.getD 0 0 = 39 := ⟨fun h9 => UInt8.toNat_inj.1 (show (L.getD 0 0).toNat = 39 by omega), fun h9 => by rw [h9]; rfl⟩
   rw [if_pos h6, hbt, ilet_f, Option.bind_some, idig_f, Option.bind_some, hb, show decide (k0 ≠ 6) = false from decide_eq_false (fun h9 => h9 h6), Bool.false_or]
   unfold startOK
   rcases Bool.eq_false_or_eq_true (isLet (L.getD 0 0)) with a1 | a1
   ·rw [if_pos a1, a1]; rfl
   rw [if_neg (by rw [a1]; simp), a1]
   rcases Bool.eq_false_or_eq_true (isDig (L.getD 0 0)) with a2_ | a2_
   ·rw [if_pos a2_, a2_]; rfl
   rw [if_neg (by rw [a2_]; simp), a2_]
   by_cases a3 : L.getD 0 0 = 34
   ·rw [if_pos (n34.2 a3), decide_eq_true a3]; rfl
   rw [if_neg (fun h9 => a3 (n34.1 h9)), decide_eq_false a3]
   by_cases a4 : L.getD 0 0 = 39
   ·rw [if_pos (n39.2 a4), decide_eq_true a4]; rfl
   rw [if_neg (fun h9 => a4 (n39.1 h9)), decide_eq_false a4]
   simp
  ·rw [if_neg h6, hb, show decide (k0 ≠ 6) = true from decide_eq_true h6]; simp
 by_cases h1 : k0 < 1
 ·exact no (by unfold okI; rw [decide_eq_false (by omega)]; rfl) (fun k => if_pos h1)
 by_cases h2 : k0 > 6
 ·exact no (by unfold okI; rw [decide_eq_false (by omega)]; rfl) (fun k => (if_neg h1).trans (if_pos h2))
 have hr : decide (1 ≤ k0 ∧ k0 ≤ 6) = true := decide_eq_true (by omega)
 by_cases h3 : L = []
 ·by_cases h5 : k0 = 5
  ·have e : okI k0 L = ((decide (k0 ≠ 6) || startOK L) && backOK k0 L) := by
    unfold okI; rw [hr, decide_eq_false (fun h9 => h9.2 h5), decide_eq_false (fun h9 : k0 = 6 ∧ _ => by omega)]; simp
   rw [e]
   refine Ev.eq (g := fun k => impl_tokenOK.j0 k false k0 s a2) (Ev.succ (Ev.now _) (jn (by subst h5; unfold wr; simp))) (fun k => ?_)
   unfold impl_tokenOK.f
   rw [if_neg h1, if_neg h2, if_pos (hsl.trans h3), if_pos h5, if_neg (by omega)]
  ·refine no (by unfold okI; rw [decide_eq_true (show L = [] ∧ k0 ≠ 5 from ⟨h3, h5⟩)]; simp) (fun k => ?_)
   unfold impl_tokenOK.f
   rw [if_neg h1, if_neg h2, if_pos (hsl.trans h3), if_neg h5]
 ·have hwne : ¬ wr k0 L = [] := by
   unfold wr; split
   ·simp
   ·split
    ·simp
    ·exact h3
  have d2 : decide (L = [] ∧ k0 ≠ 5) = false := decide_eq_false (fun h9 => h3 h9.1)
  by_cases h6 : k0 = 6 ∧ L = [33, 61]
  ·refine no (by unfold okI; rw [decide_eq_true h6]; simp) (fun k => ?_)
   unfold impl_tokenOK.f
   rw [if_neg h1, if_neg h2, if_neg (by rw [hsl]; exact h3), if_pos h6.1, hsl, beq_iff_eq.2 h6.2]
  ·have e : okI k0 L = ((decide (k0 ≠ 6) || startOK L) && backOK k0 L) := by
    unfold okI; rw [hr, d2, decide_eq_false h6]; simp
   rw [e]
   refine Ev.eq (g := fun k => impl_tokenOK.j0 k false k0 s a2) (Ev.succ (Ev.now _) (jn hwne)) (fun k => ?_)
   unfold impl_tokenOK.f
   rw [if_neg h1, if_neg h2, if_neg (by rw [hsl]; exact h3)]
   by_cases h7 : k0 = 6
   ·rw [if_pos h7, hsl, beq_eq_false_iff_ne.2 (fun h9 => h6 ⟨h7, h9⟩)]
   ·rw [if_neg h7]
end
end Go.Proofs.YtackifpnpkbddaaGreatDoor.PureFl
