-- Laid by a program of the session's own (wip/tools/mp.py); not the kit's print.
import Derived.Test.YtaicfmmgmblmiaaDoorQFnExactLikex0
import Derived.Test.YtaicfmmgmblmiaaDoorQFnExactLikex1
import Derived.Test.YtaicfmmgmblmiaaDoorQFnExactLikex2
namespace Go.Proofs.YtaicfmmgmblmiaaDoor.QFnExactLike
open Go.RowKit Go.Proofs.YtaicfmmgmblmiaaDoorW.PrintWords Go.Proofs.YtaicfmmgmblmiaaDoorW.PrintLast Go.Proofs.YtaicfmmgmblmiaaDoorW.PrintMore Go.Proofs.YtaicfmmgmblmiaaDoorExt Go.Proofs.YtaicfmmgmblmiaaDoorRunes
attribute [local go_sem] max2_int min2_int max_two min_two max_three min_three max_four min_four   -- for this text's walks alone
set_option linter.unusedVariables false
set_option linter.unusedSimpArgs false

/-! ### spec_Like: function 7 -/
mutual
def spec_Like.j0 : Nat → Bool → Int → Int → ByteArray → Int → Int → ByteArray → Option (Int × Int × ByteArray × Int)
 | 0, _, _, _, _, _, _, _ => none
 | k + 1, x24, x170000, x170001, x170002, x171000, x171001, x171002 => if x24 = true then (some (0, 0, (⟨#[]⟩ : ByteArray), 1)) else (if x170000 = 3 then (spec_Like.j1 k true x170000 x170001 x170002 x171000 x171001 x171002) else (spec_Like.j1 k (x170000 == 0) x170000 x170001 x170002 x171000 x171001 x171002))
def spec_Like.j1 : Nat → Bool → Int → Int → ByteArray → Int → Int → ByteArray → Option (Int × Int × ByteArray × Int)
 | 0, _, _, _, _, _, _, _ => none
 | k + 1, x6, x170000, x170001, x170002, x171000, x171001, x171002 => if x171000 = 3 then (spec_Like.j2 k x6 true x170000 x170001 x170002 x171000 x171001 x171002) else (spec_Like.j2 k x6 (x171000 == 0) x170000 x170001 x170002 x171000 x171001 x171002)
def spec_Like.j2 : Nat → Bool → Bool → Int → Int → ByteArray → Int → Int → ByteArray → Option (Int × Int × ByteArray × Int)
 | 0, _, _, _, _, _, _, _, _ => none
 | k + 1, x6, x7, x170000, x170001, x170002, x171000, x171001, x171002 => if x6 = true then (spec_Like.j3 k (!x7) x170000 x170001 x170002 x171000 x171001 x171002) else (spec_Like.j3 k true x170000 x170001 x170002 x171000 x171001 x171002)
def spec_Like.j3 : Nat → Bool → Int → Int → ByteArray → Int → Int → ByteArray → Option (Int × Int × ByteArray × Int)
 | 0, _, _, _, _, _, _, _ => none
 | k + 1, x47, x170000, x170001, x170002, x171000, x171001, x171002 => if x47 = true then (some (0, 0, (⟨#[]⟩ : ByteArray), 10)) else (if x170000 = 0 then (spec_Like.j4 k true x170000 x170001 x170002 x171000 x171001 x171002) else (spec_Like.j4 k (x171000 == 0) x170000 x170001 x170002 x171000 x171001 x171002))
def spec_Like.j4 : Nat → Bool → Int → Int → ByteArray → Int → Int → ByteArray → Option (Int × Int × ByteArray × Int)
 | 0, _, _, _, _, _, _, _ => none
 | k + 1, x56, x170000, x170001, x170002, x171000, x171001, x171002 => if x56 = true then (some (0, 0, (⟨#[]⟩ : ByteArray), 0)) else ((spec_l01Chars.f k x170002).bind fun bt174 => ((spec_l01Chars.f k x171002).bind fun bt178 => (if 0 ≤ (wrap64 ((bt174.1.length : Int) + 1)) then (if (wrap64 ((bt174.1.length : Int) + 1) : Int).toNat ≤ 281474976710656 then ((some (List.replicate (wrap64 ((bt174.1.length : Int) + 1) : Int).toNat false : List Bool)).bind fun y182 => (if 0 < (y182.length : Int) then ((spec_l01Pattern.f k bt178.1).bind fun t186 => (spec_Like.l0 k bt174.1 (y182.set (0 : Int).toNat true) t186 (t186.length : Int) 0)) else (none))) else (none)) else (none))))
def spec_Like.l0 : Nat → List Int → List Bool → List Int → Int → Int → Option (Int × Int × ByteArray × Int)
 | 0, _, _, _, _, _ => none
 | k + 1, x8, x12, x77, x78, x79 => if x79 < x78 then (if 0 ≤ x79 then (if x79 < (x77.length : Int) then (if 0 ≤ (wrap64 ((x8.length : Int) + 1)) then (if (wrap64 ((x8.length : Int) + 1) : Int).toNat ≤ 281474976710656 then (spec_Like.l1 k x8 x12 (rd x77 x79) (List.replicate (wrap64 ((x8.length : Int) + 1) : Int).toNat false) 0 x77 x78 x79) else (none)) else (none)) else (none)) else (none)) else (if 0 ≤ (x8.length : Int) then (if (x8.length : Int) < (x12.length : Int) then ((spec_l01Truth.f (rdOf false x12 (x8.length : Int))).bind fun bt190 => (some (bt190.1, bt190.2.1, bt190.2.2, 0))) else (none)) else (none))
def spec_Like.l1 : Nat → List Int → List Bool → Int → List Bool → Int → List Int → Int → Int → Option (Int × Int × ByteArray × Int)
 | 0, _, _, _, _, _, _, _, _ => none
 | k + 1, x8, x12, x14, x15, x16, x77, x78, x79 => if x16 ≤ (x8.length : Int) then (if x14 = (-1) then (if 0 ≤ x16 then (if x16 < (x12.length : Int) then (if rdOf false x12 x16 = true then (if x16 < (x15.length : Int) then (spec_Like.l1 k x8 x12 x14 (x15.set (x16 : Int).toNat true) (wrap64 (x16 + 1)) x77 x78 x79) else (none)) else (if x16 > 0 then (if 0 ≤ (wrap64 (x16 - 1)) then (if (wrap64 (x16 - 1)) < (x15.length : Int) then (if x16 < (x15.length : Int) then (spec_Like.l1 k x8 x12 x14 (x15.set (x16 : Int).toNat (rdOf false x15 (wrap64 (x16 - 1)))) (wrap64 (x16 + 1)) x77 x78 x79) else (none)) else (none)) else (none)) else (if x16 < (x15.length : Int) then (spec_Like.l1 k x8 x12 x14 (x15.set (x16 : Int).toNat false) (wrap64 (x16 + 1)) x77 x78 x79) else (none)))) else (none)) else (none)) else (if x16 > 0 then (if x14 = (-2) then (if 0 ≤ (wrap64 (x16 - 1)) then (if (wrap64 (x16 - 1)) < (x12.length : Int) then (if 0 ≤ x16 then (if x16 < (x15.length : Int) then (spec_Like.l1 k x8 x12 x14 (x15.set (x16 : Int).toNat (rdOf false x12 (wrap64 (x16 - 1)))) (wrap64 (x16 + 1)) x77 x78 x79) else (none)) else (none)) else (none)) else (none)) else (if 0 ≤ (wrap64 (x16 - 1)) then (if (wrap64 (x16 - 1)) < (x8.length : Int) then (if x14 = (rd x8 (wrap64 (x16 - 1))) then (if (wrap64 (x16 - 1)) < (x12.length : Int) then (if 0 ≤ x16 then (if x16 < (x15.length : Int) then (spec_Like.l1 k x8 x12 x14 (x15.set (x16 : Int).toNat (rdOf false x12 (wrap64 (x16 - 1)))) (wrap64 (x16 + 1)) x77 x78 x79) else (none)) else (none)) else (none)) else (spec_Like.l1 k x8 x12 x14 x15 (wrap64 (x16 + 1)) x77 x78 x79)) else (none)) else (none))) else (spec_Like.l1 k x8 x12 x14 x15 (wrap64 (x16 + 1)) x77 x78 x79))) else (spec_Like.l0 k x8 x15 x77 x78 (wrap64 (x79 + 1)))
end
def spec_Like.f (k : Nat) (a0_0 : Int) (a0_1 : Int) (a0_2 : ByteArray) (a1_0 : Int) (a1_1 : Int) (a1_2 : ByteArray) : Option (Int × Int × ByteArray × Int) := (spec_ValueOK.f k a0_0 a0_1 a0_2).bind fun t172 => (if t172 = true then ((spec_ValueOK.f k a1_0 a1_1 a1_2).bind fun t173 => (spec_Like.j0 k (!t173) a0_0 a0_1 a0_2 a1_0 a1_1 a1_2)) else (spec_Like.j0 k true a0_0 a0_1 a0_2 a1_0 a1_1 a1_2))
theorem spec_Like.mono_l : ∀ k, (∀ y0 y1 y2 y3 y4 y5 y6, LeO (spec_Like.j0 k y0 y1 y2 y3 y4 y5 y6) (spec_Like.j0 (k + 1) y0 y1 y2 y3 y4 y5 y6)) ∧ (∀ y0 y1 y2 y3 y4 y5 y6, LeO (spec_Like.j1 k y0 y1 y2 y3 y4 y5 y6) (spec_Like.j1 (k + 1) y0 y1 y2 y3 y4 y5 y6)) ∧ (∀ y0 y1 y2 y3 y4 y5 y6 y7, LeO (spec_Like.j2 k y0 y1 y2 y3 y4 y5 y6 y7) (spec_Like.j2 (k + 1) y0 y1 y2 y3 y4 y5 y6 y7)) ∧ (∀ y0 y1 y2 y3 y4 y5 y6, LeO (spec_Like.j3 k y0 y1 y2 y3 y4 y5 y6) (spec_Like.j3 (k + 1) y0 y1 y2 y3 y4 y5 y6)) ∧ (∀ y0 y1 y2 y3 y4 y5 y6, LeO (spec_Like.j4 k y0 y1 y2 y3 y4 y5 y6) (spec_Like.j4 (k + 1) y0 y1 y2 y3 y4 y5 y6)) ∧ (∀ y0 y1 y2 y3 y4, LeO (spec_Like.l0 k y0 y1 y2 y3 y4) (spec_Like.l0 (k + 1) y0 y1 y2 y3 y4)) ∧ (∀ y0 y1 y2 y3 y4 y5 y6 y7, LeO (spec_Like.l1 k y0 y1 y2 y3 y4 y5 y6 y7) (spec_Like.l1 (k + 1) y0 y1 y2 y3 y4 y5 y6 y7))
 | 0 => ⟨fun _ _ _ _ _ _ _ r h => by simp [spec_Like.j0] at h, fun _ _ _ _ _ _ _ r h => by simp [spec_Like.j1] at h, fun _ _ _ _ _ _ _ _ r h => by simp [spec_Like.j2] at h, fun _ _ _ _ _ _ _ r h => by simp [spec_Like.j3] at h, fun _ _ _ _ _ _ _ r h => by simp [spec_Like.j4] at h, fun _ _ _ _ _ r h => by simp [spec_Like.l0] at h, fun _ _ _ _ _ _ _ _ r h => by simp [spec_Like.l1] at h⟩
 | k + 1 => by
  obtain ⟨ih0, ih1, ih2, ih3, ih4, ih5, ih6⟩ := spec_Like.mono_l k
  refine ⟨?_, ?_, ?_, ?_, ?_, ?_, ?_⟩
  ·intro y0 y1 y2 y3 y4 y5 y6
   unfold spec_Like.j0
   repeat' first
   | (with_reducible exact ih0 _ _ _ _ _ _ _)
   | (with_reducible exact ih1 _ _ _ _ _ _ _)
   | (with_reducible exact ih2 _ _ _ _ _ _ _ _)
   | (with_reducible exact ih3 _ _ _ _ _ _ _)
   | (with_reducible exact ih4 _ _ _ _ _ _ _)
   | (with_reducible exact ih5 _ _ _ _ _)
   | (with_reducible exact ih6 _ _ _ _ _ _ _ _)
   | (with_reducible exact spec_ValueOK.mono _ _ _ _)
   | (with_reducible exact spec_l01Chars.mono _ _)
   | (with_reducible exact spec_l01Pattern.mono _ _)
   | (with_reducible exact LeO.refl _)
   | (with_reducible exact LeO.none _)
   | (with_reducible refine LeO.ite ?_ ?_)
   | (with_reducible refine LeO.bind ?_ (fun _ => ?_))
   | exact ih0 _ _ _ _ _ _ _
   | exact ih1 _ _ _ _ _ _ _
   | exact ih2 _ _ _ _ _ _ _ _
   | exact ih3 _ _ _ _ _ _ _
   | exact ih4 _ _ _ _ _ _ _
   | exact ih5 _ _ _ _ _
   | exact ih6 _ _ _ _ _ _ _ _
   | exact spec_ValueOK.mono _ _ _ _
   | exact spec_l01Chars.mono _ _
   | exact spec_l01Pattern.mono _ _
   | exact LeO.none _
   | refine LeO.ite ?_ ?_
   | refine LeO.bind ?_ (fun _ => ?_)
  ·intro y0 y1 y2 y3 y4 y5 y6
   unfold spec_Like.j1
   repeat' first
   | (with_reducible exact ih0 _ _ _ _ _ _ _)
   | (with_reducible exact ih1 _ _ _ _ _ _ _)
   | (with_reducible exact ih2 _ _ _ _ _ _ _ _)
   | (with_reducible exact ih3 _ _ _ _ _ _ _)
   | (with_reducible exact ih4 _ _ _ _ _ _ _)
   | (with_reducible exact ih5 _ _ _ _ _)
   | (with_reducible exact ih6 _ _ _ _ _ _ _ _)
   | (with_reducible exact spec_ValueOK.mono _ _ _ _)
   | (with_reducible exact spec_l01Chars.mono _ _)
   | (with_reducible exact spec_l01Pattern.mono _ _)
   | (with_reducible exact LeO.refl _)
   | (with_reducible exact LeO.none _)
   | (with_reducible refine LeO.ite ?_ ?_)
   | (with_reducible refine LeO.bind ?_ (fun _ => ?_))
   | exact ih0 _ _ _ _ _ _ _
   | exact ih1 _ _ _ _ _ _ _
   | exact ih2 _ _ _ _ _ _ _ _
   | exact ih3 _ _ _ _ _ _ _
   | exact ih4 _ _ _ _ _ _ _
   | exact ih5 _ _ _ _ _
   | exact ih6 _ _ _ _ _ _ _ _
   | exact spec_ValueOK.mono _ _ _ _
   | exact spec_l01Chars.mono _ _
   | exact spec_l01Pattern.mono _ _
   | exact LeO.none _
   | refine LeO.ite ?_ ?_
   | refine LeO.bind ?_ (fun _ => ?_)
  ·intro y0 y1 y2 y3 y4 y5 y6 y7
   unfold spec_Like.j2
   repeat' first
   | (with_reducible exact ih0 _ _ _ _ _ _ _)
   | (with_reducible exact ih1 _ _ _ _ _ _ _)
   | (with_reducible exact ih2 _ _ _ _ _ _ _ _)
   | (with_reducible exact ih3 _ _ _ _ _ _ _)
   | (with_reducible exact ih4 _ _ _ _ _ _ _)
   | (with_reducible exact ih5 _ _ _ _ _)
   | (with_reducible exact ih6 _ _ _ _ _ _ _ _)
   | (with_reducible exact spec_ValueOK.mono _ _ _ _)
   | (with_reducible exact spec_l01Chars.mono _ _)
   | (with_reducible exact spec_l01Pattern.mono _ _)
   | (with_reducible exact LeO.refl _)
   | (with_reducible exact LeO.none _)
   | (with_reducible refine LeO.ite ?_ ?_)
   | (with_reducible refine LeO.bind ?_ (fun _ => ?_))
   | exact ih0 _ _ _ _ _ _ _
   | exact ih1 _ _ _ _ _ _ _
   | exact ih2 _ _ _ _ _ _ _ _
   | exact ih3 _ _ _ _ _ _ _
   | exact ih4 _ _ _ _ _ _ _
   | exact ih5 _ _ _ _ _
   | exact ih6 _ _ _ _ _ _ _ _
   | exact spec_ValueOK.mono _ _ _ _
   | exact spec_l01Chars.mono _ _
   | exact spec_l01Pattern.mono _ _
   | exact LeO.none _
   | refine LeO.ite ?_ ?_
   | refine LeO.bind ?_ (fun _ => ?_)
  ·intro y0 y1 y2 y3 y4 y5 y6
   unfold spec_Like.j3
   repeat' first
   | (with_reducible exact ih0 _ _ _ _ _ _ _)
   | (with_reducible exact ih1 _ _ _ _ _ _ _)
   | (with_reducible exact ih2 _ _ _ _ _ _ _ _)
   | (with_reducible exact ih3 _ _ _ _ _ _ _)
   | (with_reducible exact ih4 _ _ _ _ _ _ _)
   | (with_reducible exact ih5 _ _ _ _ _)
   | (with_reducible exact ih6 _ _ _ _ _ _ _ _)
   | (with_reducible exact spec_ValueOK.mono _ _ _ _)
   | (with_reducible exact spec_l01Chars.mono _ _)
   | (with_reducible exact spec_l01Pattern.mono _ _)
   | (with_reducible exact LeO.refl _)
   | (with_reducible exact LeO.none _)
   | (with_reducible refine LeO.ite ?_ ?_)
   | (with_reducible refine LeO.bind ?_ (fun _ => ?_))
   | exact ih0 _ _ _ _ _ _ _
   | exact ih1 _ _ _ _ _ _ _
   | exact ih2 _ _ _ _ _ _ _ _
   | exact ih3 _ _ _ _ _ _ _
   | exact ih4 _ _ _ _ _ _ _
   | exact ih5 _ _ _ _ _
   | exact ih6 _ _ _ _ _ _ _ _
   | exact spec_ValueOK.mono _ _ _ _
   | exact spec_l01Chars.mono _ _
   | exact spec_l01Pattern.mono _ _
   | exact LeO.none _
   | refine LeO.ite ?_ ?_
   | refine LeO.bind ?_ (fun _ => ?_)
  ·intro y0 y1 y2 y3 y4 y5 y6
   unfold spec_Like.j4
   repeat' first
   | (with_reducible exact ih0 _ _ _ _ _ _ _)
   | (with_reducible exact ih1 _ _ _ _ _ _ _)
   | (with_reducible exact ih2 _ _ _ _ _ _ _ _)
   | (with_reducible exact ih3 _ _ _ _ _ _ _)
   | (with_reducible exact ih4 _ _ _ _ _ _ _)
   | (with_reducible exact ih5 _ _ _ _ _)
   | (with_reducible exact ih6 _ _ _ _ _ _ _ _)
   | (with_reducible exact spec_ValueOK.mono _ _ _ _)
   | (with_reducible exact spec_l01Chars.mono _ _)
   | (with_reducible exact spec_l01Pattern.mono _ _)
   | (with_reducible exact LeO.refl _)
   | (with_reducible exact LeO.none _)
   | (with_reducible refine LeO.ite ?_ ?_)
   | (with_reducible refine LeO.bind ?_ (fun _ => ?_))
   | exact ih0 _ _ _ _ _ _ _
   | exact ih1 _ _ _ _ _ _ _
   | exact ih2 _ _ _ _ _ _ _ _
   | exact ih3 _ _ _ _ _ _ _
   | exact ih4 _ _ _ _ _ _ _
   | exact ih5 _ _ _ _ _
   | exact ih6 _ _ _ _ _ _ _ _
   | exact spec_ValueOK.mono _ _ _ _
   | exact spec_l01Chars.mono _ _
   | exact spec_l01Pattern.mono _ _
   | exact LeO.none _
   | refine LeO.ite ?_ ?_
   | refine LeO.bind ?_ (fun _ => ?_)
  ·intro y0 y1 y2 y3 y4
   unfold spec_Like.l0
   repeat' first
   | (with_reducible exact ih0 _ _ _ _ _ _ _)
   | (with_reducible exact ih1 _ _ _ _ _ _ _)
   | (with_reducible exact ih2 _ _ _ _ _ _ _ _)
   | (with_reducible exact ih3 _ _ _ _ _ _ _)
   | (with_reducible exact ih4 _ _ _ _ _ _ _)
   | (with_reducible exact ih5 _ _ _ _ _)
   | (with_reducible exact ih6 _ _ _ _ _ _ _ _)
   | (with_reducible exact spec_ValueOK.mono _ _ _ _)
   | (with_reducible exact spec_l01Chars.mono _ _)
   | (with_reducible exact spec_l01Pattern.mono _ _)
   | (with_reducible exact LeO.refl _)
   | (with_reducible exact LeO.none _)
   | (with_reducible refine LeO.ite ?_ ?_)
   | (with_reducible refine LeO.bind ?_ (fun _ => ?_))
   | exact ih0 _ _ _ _ _ _ _
   | exact ih1 _ _ _ _ _ _ _
   | exact ih2 _ _ _ _ _ _ _ _
   | exact ih3 _ _ _ _ _ _ _
   | exact ih4 _ _ _ _ _ _ _
   | exact ih5 _ _ _ _ _
   | exact ih6 _ _ _ _ _ _ _ _
   | exact spec_ValueOK.mono _ _ _ _
   | exact spec_l01Chars.mono _ _
   | exact spec_l01Pattern.mono _ _
   | exact LeO.none _
   | refine LeO.ite ?_ ?_
   | refine LeO.bind ?_ (fun _ => ?_)
  ·intro y0 y1 y2 y3 y4 y5 y6 y7
   unfold spec_Like.l1
   repeat' first
   | (with_reducible exact ih0 _ _ _ _ _ _ _)
   | (with_reducible exact ih1 _ _ _ _ _ _ _)
   | (with_reducible exact ih2 _ _ _ _ _ _ _ _)
   | (with_reducible exact ih3 _ _ _ _ _ _ _)
   | (with_reducible exact ih4 _ _ _ _ _ _ _)
   | (with_reducible exact ih5 _ _ _ _ _)
   | (with_reducible exact ih6 _ _ _ _ _ _ _ _)
   | (with_reducible exact spec_ValueOK.mono _ _ _ _)
   | (with_reducible exact spec_l01Chars.mono _ _)
   | (with_reducible exact spec_l01Pattern.mono _ _)
   | (with_reducible exact LeO.refl _)
   | (with_reducible exact LeO.none _)
   | (with_reducible refine LeO.ite ?_ ?_)
   | (with_reducible refine LeO.bind ?_ (fun _ => ?_))
   | exact ih0 _ _ _ _ _ _ _
   | exact ih1 _ _ _ _ _ _ _
   | exact ih2 _ _ _ _ _ _ _ _
   | exact ih3 _ _ _ _ _ _ _
   | exact ih4 _ _ _ _ _ _ _
   | exact ih5 _ _ _ _ _
   | exact ih6 _ _ _ _ _ _ _ _
   | exact spec_ValueOK.mono _ _ _ _
   | exact spec_l01Chars.mono _ _
   | exact spec_l01Pattern.mono _ _
   | exact LeO.none _
   | refine LeO.ite ?_ ?_
   | refine LeO.bind ?_ (fun _ => ?_)
theorem spec_Like.mono : ∀ a0 a1 a2 a3 a4 a5 k, LeO (spec_Like.f k a0 a1 a2 a3 a4 a5) (spec_Like.f (k + 1) a0 a1 a2 a3 a4 a5) := by
 intro a0 a1 a2 a3 a4 a5 k
 obtain ⟨ih0, ih1, ih2, ih3, ih4, ih5, ih6⟩ := spec_Like.mono_l k
 unfold spec_Like.f
 repeat' first
   | (with_reducible exact ih0 _ _ _ _ _ _ _)
   | (with_reducible exact ih1 _ _ _ _ _ _ _)
   | (with_reducible exact ih2 _ _ _ _ _ _ _ _)
   | (with_reducible exact ih3 _ _ _ _ _ _ _)
   | (with_reducible exact ih4 _ _ _ _ _ _ _)
   | (with_reducible exact ih5 _ _ _ _ _)
   | (with_reducible exact ih6 _ _ _ _ _ _ _ _)
   | (with_reducible exact spec_ValueOK.mono _ _ _ _)
   | (with_reducible exact spec_l01Chars.mono _ _)
   | (with_reducible exact spec_l01Pattern.mono _ _)
   | (with_reducible exact LeO.refl _)
   | (with_reducible exact LeO.none _)
   | (with_reducible refine LeO.ite ?_ ?_)
   | (with_reducible refine LeO.bind ?_ (fun _ => ?_))
   | exact ih0 _ _ _ _ _ _ _
   | exact ih1 _ _ _ _ _ _ _
   | exact ih2 _ _ _ _ _ _ _ _
   | exact ih3 _ _ _ _ _ _ _
   | exact ih4 _ _ _ _ _ _ _
   | exact ih5 _ _ _ _ _
   | exact ih6 _ _ _ _ _ _ _ _
   | exact spec_ValueOK.mono _ _ _ _
   | exact spec_l01Chars.mono _ _
   | exact spec_l01Pattern.mono _ _
   | exact LeO.none _
   | refine LeO.ite ?_ ?_
   | refine LeO.bind ?_ (fun _ => ?_)
set_option maxHeartbeats 8000000 in
set_option maxRecDepth 100000 in
theorem spec_Like.calls (k : Nat) (a0_0 : Int) (a0_1 : Int) (a0_2 : ByteArray) (a1_0 : Int) (a1_1 : Int) (a1_2 : ByteArray) (r1 : Int) (r2 : Int) (r3 : ByteArray) (r4 : Int) (w : World) (h : spec_Like.f k a0_0 a0_1 a0_2 a1_0 a1_1 a1_2 = some (r1, r2, r3, r4)) :
  Calls Tryd.prog 7 #[.agg #[.int .i64 a0_0, .int .i64 a0_1, .string a0_2], .agg #[.int .i64 a1_0, .int .i64 a1_1, .string a1_2]] w fun e w' => e = .returned (.tuple #[.agg #[.int .i64 r1, .int .i64 r2, .string r3], .int .i64 r4]) ∧ Below w.heap.size w w' := by
 have hu25 := Tryd.underlying25
 have HB := Aside0.mk (Below.refl w.heap.size w)
 have H : ((spec_ValueOK.f k a0_0 a0_1 a0_2).bind fun t172 => (if t172 = true then ((spec_ValueOK.f k a1_0 a1_1 a1_2).bind fun t173 => (spec_Like.j0 k (!t173) a0_0 a0_1 a0_2 a1_0 a1_1 a1_2)) else (spec_Like.j0 k true a0_0 a0_1 a0_2 a1_0 a1_1 a1_2))) = some (r1, r2, r3, r4) := h
 clear h
 have HC3 := Aside0.mk H
 clear H
 go_enter Tryd.func7, Tryd.ntmps7
 go_upto_region 1 with (first | ((with_reducible refine gate_dst (N := 2) rfl ?_); refine box_event ?hg (N := 2) ?hd (cs := #[.int .i64 a0_0, .int .i64 a0_1, .string a0_2]) (t := 25) ?hr ?_; (case hd => rfl); (case hg => rfl); (case hr => first | (go_simp; done) | (go_simp; rfl)); intro gb169 hg w4 hbox hb; have n0_ := Aside0.mk (below_step (by repeat (first | (with_reducible first | exact HB.out | apply below_alloc | apply pw_below_drewN | apply below_drew1) | exact HB.out)) hb); have n1_ := Aside0.mk (hbox); have n2_ := Aside0.mk ((by rw [hg]; exact (below_size (by repeat (first | (with_reducible first | exact HB.out | apply below_alloc | apply pw_below_drewN | apply below_drew1) | exact HB.out))) : w.heap.size ≤ gb169)); have n3_ := Aside0.mk ((by rw [hg]; exact (below_size (by repeat (first | (with_reducible first | exact HB.out | apply below_alloc | apply pw_below_drewN | apply below_drew1) | exact HB.out))) : w.heap.size ≤ gb169)); clear HB; have HB := n0_; have BK169 := n1_; have GW169 := n2_; have GE169 := n3_; clear n0_ n1_ n2_ n3_; clear hb hbox hg) | ((with_reducible refine gate_dst (N := 3) rfl ?_); refine box_event ?hg (N := 3) ?hd (cs := #[.int .i64 a1_0, .int .i64 a1_1, .string a1_2]) (t := 25) ?hr ?_; (case hd => rfl); (case hg => rfl); (case hr => first | (go_simp; done) | (go_simp; rfl)); intro gb170 hg w5 hbox hb; have n0_ := Aside0.mk (blk_below (g := gb169) (o := .cells #[.int .i64 a0_0, .int .i64 a0_1, .string a0_2] 25 (0, 0)) (by (with_reducible repeat (first | refine blk_drewN ?_ _ | refine blk_drew ?_ | refine blk_alloc ?_ _)); exact BK169.out) hb); have n1_ := Aside0.mk (below_step (by repeat (first | (with_reducible first | exact HB.out | apply below_alloc | apply pw_below_drewN | apply below_drew1 | refine below_set ?_ GE169.out) | exact HB.out)) hb); have n2_ := Aside0.mk (hbox); have n3_ := Aside0.mk ((by rw [hg]; exact (below_size (by repeat (first | (with_reducible first | exact HB.out | apply below_alloc | apply pw_below_drewN | apply below_drew1 | refine below_set ?_ GE169.out) | exact HB.out))) : w.heap.size ≤ gb170)); have n4_ := Aside0.mk ((by rw [hg]; exact (below_size (by repeat (first | (with_reducible first | exact HB.out | apply below_alloc | apply pw_below_drewN | apply below_drew1 | refine below_set ?_ GE169.out) | exact HB.out))) : w.heap.size ≤ gb170)); have n5_ := Aside0.mk ((by rw [hg]; exact Nat.ne_of_lt (blk_lt (g := gb169) (o := .cells #[.int .i64 a0_0, .int .i64 a0_1, .string a0_2] 25 (0, 0)) (by (with_reducible repeat (first | refine blk_drewN ?_ _ | refine blk_drew ?_ | refine blk_alloc ?_ _)); exact BK169.out)) : gb169 ≠ gb170)); have n6_ := Aside0.mk ((by rw [hg]; exact Nat.ne_of_gt (blk_lt (g := gb169) (o := .cells #[.int .i64 a0_0, .int .i64 a0_1, .string a0_2] 25 (0, 0)) (by (with_reducible repeat (first | refine blk_drewN ?_ _ | refine blk_drew ?_ | refine blk_alloc ?_ _)); exact BK169.out)) : gb170 ≠ gb169)); clear BK169; clear HB; have BK169 := n0_; have HB := n1_; have BK170 := n2_; have GW170 := n3_; have GE170 := n4_; have NB169_170 := n5_; have NB170_169 := n6_; clear n0_ n1_ n2_ n3_ n4_ n5_ n6_; clear hb hbox hg) | ((with_reducible refine gate_dst (N := 4) rfl ?_); refine box_event ?hg (N := 4) ?hd (cs := #[.int .i64 0, .int .i64 0, .string (⟨#[]⟩ : ByteArray)]) (t := 25) ?hr ?_; (case hd => rfl); (case hg => rfl); (case hr => first | (go_simp; done) | (go_simp; rfl)); intro gb171 hg w6 hbox hb; have n0_ := Aside0.mk (blk_below (g := gb169) (o := .cells #[.int .i64 a0_0, .int .i64 a0_1, .string a0_2] 25 (0, 0)) (by (with_reducible repeat (first | refine blk_drewN ?_ _ | refine blk_drew ?_ | refine blk_alloc ?_ _)); exact BK169.out) hb); have n1_ := Aside0.mk (blk_below (g := gb170) (o := .cells #[.int .i64 a1_0, .int .i64 a1_1, .string a1_2] 25 (0, 0)) (by (with_reducible repeat (first | refine blk_drewN ?_ _ | refine blk_drew ?_ | refine blk_alloc ?_ _)); exact BK170.out) hb); have n2_ := Aside0.mk (below_step (by repeat (first | (with_reducible first | exact HB.out | apply below_alloc | apply pw_below_drewN | apply below_drew1 | refine below_set ?_ GE169.out | refine below_set ?_ GE170.out) | exact HB.out)) hb); have n3_ := Aside0.mk (hbox); have n4_ := Aside0.mk ((by rw [hg]; exact (below_size (by repeat (first | (with_reducible first | exact HB.out | apply below_alloc | apply pw_below_drewN | apply below_drew1 | refine below_set ?_ GE169.out | refine below_set ?_ GE170.out) | exact HB.out))) : w.heap.size ≤ gb171)); have n5_ := Aside0.mk ((by rw [hg]; exact (below_size (by repeat (first | (with_reducible first | exact HB.out | apply below_alloc | apply pw_below_drewN | apply below_drew1 | refine below_set ?_ GE169.out | refine below_set ?_ GE170.out) | exact HB.out))) : w.heap.size ≤ gb171)); have n6_ := Aside0.mk ((by rw [hg]; exact Nat.ne_of_lt (blk_lt (g := gb169) (o := .cells #[.int .i64 a0_0, .int .i64 a0_1, .string a0_2] 25 (0, 0)) (by (with_reducible repeat (first | refine blk_drewN ?_ _ | refine blk_drew ?_ | refine blk_alloc ?_ _)); exact BK169.out)) : gb169 ≠ gb171)); have n7_ := Aside0.mk ((by rw [hg]; exact Nat.ne_of_gt (blk_lt (g := gb169) (o := .cells #[.int .i64 a0_0, .int .i64 a0_1, .string a0_2] 25 (0, 0)) (by (with_reducible repeat (first | refine blk_drewN ?_ _ | refine blk_drew ?_ | refine blk_alloc ?_ _)); exact BK169.out)) : gb171 ≠ gb169)); have n8_ := Aside0.mk ((by rw [hg]; exact Nat.ne_of_lt (blk_lt (g := gb170) (o := .cells #[.int .i64 a1_0, .int .i64 a1_1, .string a1_2] 25 (0, 0)) (by (with_reducible repeat (first | refine blk_drewN ?_ _ | refine blk_drew ?_ | refine blk_alloc ?_ _)); exact BK170.out)) : gb170 ≠ gb171)); have n9_ := Aside0.mk ((by rw [hg]; exact Nat.ne_of_gt (blk_lt (g := gb170) (o := .cells #[.int .i64 a1_0, .int .i64 a1_1, .string a1_2] 25 (0, 0)) (by (with_reducible repeat (first | refine blk_drewN ?_ _ | refine blk_drew ?_ | refine blk_alloc ?_ _)); exact BK170.out)) : gb171 ≠ gb170)); clear BK169; clear BK170; clear HB; have BK169 := n0_; have BK170 := n1_; have HB := n2_; have BK171 := n3_; have GW171 := n4_; have GE171 := n5_; have NB169_171 := n6_; have NB171_169 := n7_; have NB170_171 := n8_; have NB171_170 := n9_; clear n0_ n1_ n2_ n3_ n4_ n5_ n6_ n7_ n8_ n9_; clear hb hbox hg))
 (try simp only [Act.put, List.setIfInBounds_toArray, List.set_cons_zero, List.set_cons_succ])
 go_cut [24] (fun v24 wc => ∃ (kq : Nat) (x24_2 : Bool), v24 = .bool x24_2 ∧ Aside0 (spec_Like.j0 kq x24_2 a0_0 a0_1 a0_2 a1_0 a1_1 a1_2 = some (r1, r2, r3, r4)) ∧ Aside0 (kq ≤ k) ∧ Aside0 (wc.heap[gb169]? = some (.cells #[.int .i64 a0_0, .int .i64 a0_1, .string a0_2] 25 (0, 0))) ∧ Aside0 (wc.heap[gb170]? = some (.cells #[.int .i64 a1_0, .int .i64 a1_1, .string a1_2] 25 (0, 0))) ∧ Aside0 (wc.heap[gb171]? = some (.cells #[.int .i64 0, .int .i64 0, .string (⟨#[]⟩ : ByteArray)] 25 (0, 0))) ∧ Aside0 (Below w.heap.size w wc))
 case first =>
  have H := HC3.out
  clear HC3
  replace H := Option.bind_eq_some_iff.mp H
  obtain ⟨t172, A70, H⟩ := H
  replace H : (if t172 = true then ((spec_ValueOK.f k a1_0 a1_1 a1_2).bind fun t173 => (spec_Like.j0 k (!t173) a0_0 a0_1 a0_2 a1_0 a1_1 a1_2)) else (spec_Like.j0 k true a0_0 a0_1 a0_2 a1_0 a1_1 a1_2)) = some (r1, r2, r3, r4) := H
  have A7 := Aside0.mk A70
  clear A70
  by_cases c8 : t172 = true
  ·subst c8
   have H1 : ((spec_ValueOK.f k a1_0 a1_1 a1_2).bind fun t173 => (spec_Like.j0 k (!t173) a0_0 a0_1 a0_2 a1_0 a1_1 a1_2)) = some (r1, r2, r3, r4) := by rw [if_pos rfl] at H; exact H
   clear H
   have H := H1
   clear H1
   replace H := Option.bind_eq_some_iff.mp H
   obtain ⟨t173, A90, H⟩ := H
   replace H : (spec_Like.j0 k (!t173) a0_0 a0_1 a0_2 a1_0 a1_1 a1_2) = some (r1, r2, r3, r4) := H
   have A9 := Aside0.mk A90
   clear A90
   have H' := Aside0.mk H
   clear H
   have hnb10 := NB169_170.out
   have hnc10 := NB170_169.out
   have hnb11 := NB169_171.out
   have hnc11 := NB171_169.out
   have hcz12_0 : w6.cell? ⟨gb169, 0, none⟩ = some (.int .i64 a0_0) := (blk_cell BK169.out 0).trans rfl
   have hcz12_1 : w6.cell? ⟨gb169, 1, none⟩ = some (.int .i64 a0_1) := (blk_cell BK169.out 1).trans rfl
   have hcz12_2 : w6.cell? ⟨gb169, 2, none⟩ = some (.string a0_2) := (blk_cell BK169.out 2).trans rfl
   have hfz12_0 := blk_frozen BK169.out 0
   have hfz12_1 := blk_frozen BK169.out 1
   have hfz12_2 := blk_frozen BK169.out 2
   go_wp2_with (first | ((with_reducible refine gate_callee (f := 24) rfl ?_); refine goesL_ (some 18) rfl rfl Tryd.func24 (by kernel_rfl) rfl #[.agg #[.int .i64 a0_0, .int .i64 a0_1, .string a0_2]] rfl (by (try simp only [List.map_toArray, List.map_cons, List.map_nil]); first | done | rfl | (simp only [List.length_drop, List.length_take]; rfl)) ?_; (with_reducible refine (spec_ValueOK.calls k a0_0 a0_1 a0_2 true _ A7.out).mono ?_); rintro e w13 ⟨rfl, hb⟩; refine ⟨_, rfl, ?_⟩; have n0_ := Aside0.mk (blk_below (g := gb169) (o := .cells #[.int .i64 a0_0, .int .i64 a0_1, .string a0_2] 25 (0, 0)) (by (with_reducible repeat (first | refine blk_drewN ?_ _ | refine blk_drew ?_ | refine blk_alloc ?_ _)); exact BK169.out) hb); have n1_ := Aside0.mk (blk_below (g := gb170) (o := .cells #[.int .i64 a1_0, .int .i64 a1_1, .string a1_2] 25 (0, 0)) (by (with_reducible repeat (first | refine blk_drewN ?_ _ | refine blk_drew ?_ | refine blk_alloc ?_ _)); exact BK170.out) hb); have n2_ := Aside0.mk (blk_below (g := gb171) (o := .cells #[.int .i64 0, .int .i64 0, .string (⟨#[]⟩ : ByteArray)] 25 (0, 0)) (by (with_reducible repeat (first | refine blk_drewN ?_ _ | refine blk_drew ?_ | refine blk_alloc ?_ _)); exact BK171.out) hb); have n3_ := Aside0.mk (below_step (by repeat (first | (with_reducible first | exact HB.out | apply below_alloc | apply pw_below_drewN | apply below_drew1 | refine below_set ?_ GE169.out | refine below_set ?_ GE170.out | refine below_set ?_ GE171.out) | exact HB.out)) hb); clear BK169; clear BK170; clear BK171; clear HB; have BK169 := n0_; have BK170 := n1_; have BK171 := n2_; have HB := n3_; clear n0_ n1_ n2_ n3_; (try clear hb); (try clear hb2); (try clear hk); (try clear hi); have hnb14 := NB170_171.out; have hnc14 := NB171_170.out; have hcz15_0 : w13.cell? ⟨gb170, 0, none⟩ = some (.int .i64 a1_0) := (blk_cell BK170.out 0).trans rfl; have hcz15_1 : w13.cell? ⟨gb170, 1, none⟩ = some (.int .i64 a1_1) := (blk_cell BK170.out 1).trans rfl; have hcz15_2 : w13.cell? ⟨gb170, 2, none⟩ = some (.string a1_2) := (blk_cell BK170.out 2).trans rfl; have hfz15_0 := blk_frozen BK170.out 0; have hfz15_1 := blk_frozen BK170.out 1; have hfz15_2 := blk_frozen BK170.out 2) | (go_at_call 24; (with_reducible refine (spec_ValueOK.calls k a1_0 a1_1 a1_2 t173 _ A9.out).mono ?_); rintro e w16 ⟨rfl, hb⟩; have n0_ := Aside0.mk (blk_below (g := gb169) (o := .cells #[.int .i64 a0_0, .int .i64 a0_1, .string a0_2] 25 (0, 0)) (by (with_reducible repeat (first | refine blk_drewN ?_ _ | refine blk_drew ?_ | refine blk_alloc ?_ _)); exact BK169.out) hb); have n1_ := Aside0.mk (blk_below (g := gb170) (o := .cells #[.int .i64 a1_0, .int .i64 a1_1, .string a1_2] 25 (0, 0)) (by (with_reducible repeat (first | refine blk_drewN ?_ _ | refine blk_drew ?_ | refine blk_alloc ?_ _)); exact BK170.out) hb); have n2_ := Aside0.mk (blk_below (g := gb171) (o := .cells #[.int .i64 0, .int .i64 0, .string (⟨#[]⟩ : ByteArray)] 25 (0, 0)) (by (with_reducible repeat (first | refine blk_drewN ?_ _ | refine blk_drew ?_ | refine blk_alloc ?_ _)); exact BK171.out) hb); have n3_ := Aside0.mk (below_step (by repeat (first | (with_reducible first | exact HB.out | apply below_alloc | apply pw_below_drewN | apply below_drew1 | refine below_set ?_ GE169.out | refine below_set ?_ GE170.out | refine below_set ?_ GE171.out) | exact HB.out)) hb); clear BK169; clear BK170; clear BK171; clear HB; have BK169 := n0_; have BK170 := n1_; have BK171 := n2_; have HB := n3_; clear n0_ n1_ n2_ n3_; (try clear hb); (try clear hb2); (try clear hk); (try clear hi)))
   go_meet
   case rel => exact ⟨_, (!t173), (by first | rfl | (simp; done) | (simp [*]; done)), H', ⟨by first | omega | exact Nat.le_refl _⟩, ⟨by (with_reducible repeat (first | refine blk_drewN ?_ _ | refine blk_drew ?_ | refine blk_alloc ?_ _)); exact BK169.out⟩, ⟨by (with_reducible repeat (first | refine blk_drewN ?_ _ | refine blk_drew ?_ | refine blk_alloc ?_ _)); exact BK170.out⟩, ⟨by (with_reducible repeat (first | refine blk_drewN ?_ _ | refine blk_drew ?_ | refine blk_alloc ?_ _)); exact BK171.out⟩, ⟨by repeat (first | (with_reducible first | exact HB.out | apply below_alloc | apply pw_below_drewN | apply below_drew1 | refine below_set ?_ GE169.out | refine below_set ?_ GE170.out | refine below_set ?_ GE171.out) | exact HB.out)⟩⟩
  ·replace c8 := Bool.eq_false_iff.mpr c8
   subst c8
   have H1 : (spec_Like.j0 k true a0_0 a0_1 a0_2 a1_0 a1_1 a1_2) = some (r1, r2, r3, r4) := by rw [if_neg (show ¬ (false = true) by decide)] at H; exact H
   clear H
   have H := H1
   clear H1
   have H' := Aside0.mk H
   clear H
   have hnb17 := NB169_170.out
   have hnc17 := NB170_169.out
   have hnb18 := NB169_171.out
   have hnc18 := NB171_169.out
   have hcz19_0 : w6.cell? ⟨gb169, 0, none⟩ = some (.int .i64 a0_0) := (blk_cell BK169.out 0).trans rfl
   have hcz19_1 : w6.cell? ⟨gb169, 1, none⟩ = some (.int .i64 a0_1) := (blk_cell BK169.out 1).trans rfl
   have hcz19_2 : w6.cell? ⟨gb169, 2, none⟩ = some (.string a0_2) := (blk_cell BK169.out 2).trans rfl
   have hfz19_0 := blk_frozen BK169.out 0
   have hfz19_1 := blk_frozen BK169.out 1
   have hfz19_2 := blk_frozen BK169.out 2
   go_wp2_with (first | ((with_reducible refine gate_callee (f := 24) rfl ?_); refine goesL_ (some 18) rfl rfl Tryd.func24 (by kernel_rfl) rfl #[.agg #[.int .i64 a0_0, .int .i64 a0_1, .string a0_2]] rfl (by (try simp only [List.map_toArray, List.map_cons, List.map_nil]); first | done | rfl | (simp only [List.length_drop, List.length_take]; rfl)) ?_; (with_reducible refine (spec_ValueOK.calls k a0_0 a0_1 a0_2 false _ A7.out).mono ?_); rintro e w20 ⟨rfl, hb⟩; refine ⟨_, rfl, ?_⟩; have n0_ := Aside0.mk (blk_below (g := gb169) (o := .cells #[.int .i64 a0_0, .int .i64 a0_1, .string a0_2] 25 (0, 0)) (by (with_reducible repeat (first | refine blk_drewN ?_ _ | refine blk_drew ?_ | refine blk_alloc ?_ _)); exact BK169.out) hb); have n1_ := Aside0.mk (blk_below (g := gb170) (o := .cells #[.int .i64 a1_0, .int .i64 a1_1, .string a1_2] 25 (0, 0)) (by (with_reducible repeat (first | refine blk_drewN ?_ _ | refine blk_drew ?_ | refine blk_alloc ?_ _)); exact BK170.out) hb); have n2_ := Aside0.mk (blk_below (g := gb171) (o := .cells #[.int .i64 0, .int .i64 0, .string (⟨#[]⟩ : ByteArray)] 25 (0, 0)) (by (with_reducible repeat (first | refine blk_drewN ?_ _ | refine blk_drew ?_ | refine blk_alloc ?_ _)); exact BK171.out) hb); have n3_ := Aside0.mk (below_step (by repeat (first | (with_reducible first | exact HB.out | apply below_alloc | apply pw_below_drewN | apply below_drew1 | refine below_set ?_ GE169.out | refine below_set ?_ GE170.out | refine below_set ?_ GE171.out) | exact HB.out)) hb); clear BK169; clear BK170; clear BK171; clear HB; have BK169 := n0_; have BK170 := n1_; have BK171 := n2_; have HB := n3_; clear n0_ n1_ n2_ n3_; (try clear hb); (try clear hb2); (try clear hk); (try clear hi)))
   go_meet
   case rel => exact ⟨_, (true), (by first | rfl | (simp; done) | (simp [*]; done)), H', ⟨by first | omega | exact Nat.le_refl _⟩, ⟨by (with_reducible repeat (first | refine blk_drewN ?_ _ | refine blk_drew ?_ | refine blk_alloc ?_ _)); exact BK169.out⟩, ⟨by (with_reducible repeat (first | refine blk_drewN ?_ _ | refine blk_drew ?_ | refine blk_alloc ?_ _)); exact BK170.out⟩, ⟨by (with_reducible repeat (first | refine blk_drewN ?_ _ | refine blk_drew ?_ | refine blk_alloc ?_ _)); exact BK171.out⟩, ⟨by repeat (first | (with_reducible first | exact HB.out | apply below_alloc | apply pw_below_drewN | apply below_drew1 | refine below_set ?_ GE169.out | refine below_set ?_ GE170.out | refine below_set ?_ GE171.out) | exact HB.out)⟩⟩
 case rest =>
  clear HC3
  try clear c1
  try clear c2
  try clear p2
  try clear c7
  try clear c8
  try clear c10
  try clear c11
  try clear c14
  try clear c17
  try clear c18
  try clear hcz12_0
  try clear hcz12_1
  try clear hcz12_2
  try clear hcz15_0
  try clear hcz15_1
  try clear hcz15_2
  try clear hcz19_0
  try clear hcz19_1
  try clear hcz19_2
  try clear hfz12_0
  try clear hfz12_1
  try clear hfz12_2
  try clear hfz15_0
  try clear hfz15_1
  try clear hfz15_2
  try clear hfz19_0
  try clear hfz19_1
  try clear hfz19_2
  obtain ⟨kq, x24_2, rfl, HA, HJ2, BK169, BK170, BK171, HB⟩ := hcut
  cases kq with
  | zero => exact absurd HA.out (by simp [spec_Like.j0])
  | succ kj2 =>
   have H := HA.out
   clear HA
   simp only [spec_Like.j0] at H
   by_cases c21 : x24_2 = true
   ·subst c21
    have H1 : (some (0, 0, (⟨#[]⟩ : ByteArray), 1)) = some (r1, r2, r3, r4) := by rw [if_pos rfl] at H; exact H
    clear H
    have H := H1
    clear H1
    simp only [Option.some.injEq, Prod.mk.injEq] at H
    obtain ⟨rfl, rfl, rfl, rfl⟩ := H
    have hnb22 := NB171_169.out
    have hnc22 := NB169_171.out
    have hnb23 := NB171_170.out
    have hnc23 := NB170_171.out
    have hcz24_0 : wc.cell? ⟨gb171, 0, none⟩ = some (.int .i64 0) := (blk_cell BK171.out 0).trans rfl
    have hcz24_1 : wc.cell? ⟨gb171, 1, none⟩ = some (.int .i64 0) := (blk_cell BK171.out 1).trans rfl
    have hcz24_2 : wc.cell? ⟨gb171, 2, none⟩ = some (.string (⟨#[]⟩ : ByteArray)) := (blk_cell BK171.out 2).trans rfl
    have hfz24_0 := blk_frozen BK171.out 0
    have hfz24_1 := blk_frozen BK171.out 1
    have hfz24_2 := blk_frozen BK171.out 2
    go_wp2
    refine bodyPost_ret (results_ct rfl _ _ gb171 25 #[.int .i64 0, .int .i64 0, .string (⟨#[]⟩ : ByteArray)] (0, 0) _ rfl (by (with_reducible repeat (first | refine blk_drewN ?_ _ | refine blk_drew ?_ | refine blk_alloc ?_ _)); refine blk_put (cs := #[.int .i64 0, .int .i64 0, .string (⟨#[]⟩ : ByteArray)]) ?_ 2 _ rfl; (with_reducible repeat (first | refine blk_drewN ?_ _ | refine blk_drew ?_ | refine blk_alloc ?_ _)); refine blk_put (cs := #[.int .i64 0, .int .i64 0, .string (⟨#[]⟩ : ByteArray)]) ?_ 1 _ rfl; (with_reducible repeat (first | refine blk_drewN ?_ _ | refine blk_drew ?_ | refine blk_alloc ?_ _)); refine blk_put (cs := #[.int .i64 0, .int .i64 0, .string (⟨#[]⟩ : ByteArray)]) ?_ 0 _ rfl; (with_reducible repeat (first | refine blk_drewN ?_ _ | refine blk_drew ?_ | refine blk_alloc ?_ _)); exact BK171.out) Tryd.underlying25 rfl (by kernel_rfl)) rfl ?_
    exact ⟨by first | rfl | (simp [errW_none, errW_some] <;> rfl) | (simp [*, errW_none, errW_some] <;> rfl), by repeat (first | (with_reducible first | exact HB.out | apply below_alloc | apply pw_below_drewN | apply below_drew1 | refine below_set ?_ GE169.out | refine below_set ?_ GE170.out | refine below_set ?_ GE171.out) | exact HB.out)⟩
   ·replace c21 := Bool.eq_false_iff.mpr c21
    subst c21
    have H1 : (if a0_0 = 3 then (spec_Like.j1 kj2 true a0_0 a0_1 a0_2 a1_0 a1_1 a1_2) else (spec_Like.j1 kj2 (a0_0 == 0) a0_0 a0_1 a0_2 a1_0 a1_1 a1_2)) = some (r1, r2, r3, r4) := by rw [if_neg (show ¬ (false = true) by decide)] at H; exact H
    clear H
    have H := H1
    clear H1
    have HC25 := Aside0.mk H
    clear H
    go_upto_region 3 with (fail)
    go_cut [6] (fun v6 wc => ∃ (kq : Nat) (x6_24 : Bool), v6 = .bool x6_24 ∧ Aside0 (spec_Like.j1 kq x6_24 a0_0 a0_1 a0_2 a1_0 a1_1 a1_2 = some (r1, r2, r3, r4)) ∧ Aside0 (kq ≤ kj2) ∧ Aside0 (wc.heap[gb169]? = some (.cells #[.int .i64 a0_0, .int .i64 a0_1, .string a0_2] 25 (0, 0))) ∧ Aside0 (wc.heap[gb170]? = some (.cells #[.int .i64 a1_0, .int .i64 a1_1, .string a1_2] 25 (0, 0))) ∧ Aside0 (wc.heap[gb171]? = some (.cells #[.int .i64 0, .int .i64 0, .string (⟨#[]⟩ : ByteArray)] 25 (0, 0))) ∧ Aside0 (Below w.heap.size w wc))
    case first =>
     have H := HC25.out
     clear HC25
     by_cases c26 : a0_0 = 3
     ·rw [if_pos c26] at H
      have c26b0 : (a0_0 == 3) = true := beq_iff_eq.mpr c26
      have c26b1 : (a0_0 != 3) = false := bne_eq_false_iff_eq.mpr c26
      clear c26
      (first | rw [c26b0] | (simp only [i64_w, i32_w]; rw [c26b0]) | skip)
      have H' := Aside0.mk H
      clear H
      have hnb27 := NB169_170.out
      have hnc27 := NB170_169.out
      have hnb28 := NB169_171.out
      have hnc28 := NB171_169.out
      have hcz29_0 : wc.cell? ⟨gb169, 0, none⟩ = some (.int .i64 a0_0) := (blk_cell BK169.out 0).trans rfl
      have hcz29_1 : wc.cell? ⟨gb169, 1, none⟩ = some (.int .i64 a0_1) := (blk_cell BK169.out 1).trans rfl
      have hcz29_2 : wc.cell? ⟨gb169, 2, none⟩ = some (.string a0_2) := (blk_cell BK169.out 2).trans rfl
      have hfz29_0 := blk_frozen BK169.out 0
      have hfz29_1 := blk_frozen BK169.out 1
      have hfz29_2 := blk_frozen BK169.out 2
      go_wp2
      go_meet
      case rel => exact ⟨_, (true), (by first | rfl | (simp; done) | (simp [*]; done)), H', ⟨by have := HJ2.out; first | omega | exact Nat.le_refl _⟩, ⟨by (with_reducible repeat (first | refine blk_drewN ?_ _ | refine blk_drew ?_ | refine blk_alloc ?_ _)); exact BK169.out⟩, ⟨by (with_reducible repeat (first | refine blk_drewN ?_ _ | refine blk_drew ?_ | refine blk_alloc ?_ _)); exact BK170.out⟩, ⟨by (with_reducible repeat (first | refine blk_drewN ?_ _ | refine blk_drew ?_ | refine blk_alloc ?_ _)); exact BK171.out⟩, ⟨by repeat (first | (with_reducible first | exact HB.out | apply below_alloc | apply pw_below_drewN | apply below_drew1 | refine below_set ?_ GE169.out | refine below_set ?_ GE170.out | refine below_set ?_ GE171.out) | exact HB.out)⟩⟩
     ·rw [if_neg c26] at H
      have c26b0 : (a0_0 == 3) = false := beq_eq_false_iff_ne.mpr c26
      have c26b1 : (a0_0 != 3) = true := bne_iff_ne.mpr c26
      (first | rw [c26b0] | (simp only [i64_w, i32_w]; rw [c26b0]) | skip)
      have H' := Aside0.mk H
      clear H
      have hnb30 := NB169_170.out
      have hnc30 := NB170_169.out
      have hnb31 := NB169_171.out
      have hnc31 := NB171_169.out
      have hcz32_0 : wc.cell? ⟨gb169, 0, none⟩ = some (.int .i64 a0_0) := (blk_cell BK169.out 0).trans rfl
      have hcz32_1 : wc.cell? ⟨gb169, 1, none⟩ = some (.int .i64 a0_1) := (blk_cell BK169.out 1).trans rfl
      have hcz32_2 : wc.cell? ⟨gb169, 2, none⟩ = some (.string a0_2) := (blk_cell BK169.out 2).trans rfl
      have hfz32_0 := blk_frozen BK169.out 0
      have hfz32_1 := blk_frozen BK169.out 1
      have hfz32_2 := blk_frozen BK169.out 2
      go_wp2
      go_meet
      case rel => exact ⟨_, ((a0_0 == 0)), (by first | rfl | (simp; done) | (simp [*]; done)), H', ⟨by have := HJ2.out; first | omega | exact Nat.le_refl _⟩, ⟨by (with_reducible repeat (first | refine blk_drewN ?_ _ | refine blk_drew ?_ | refine blk_alloc ?_ _)); exact BK169.out⟩, ⟨by (with_reducible repeat (first | refine blk_drewN ?_ _ | refine blk_drew ?_ | refine blk_alloc ?_ _)); exact BK170.out⟩, ⟨by (with_reducible repeat (first | refine blk_drewN ?_ _ | refine blk_drew ?_ | refine blk_alloc ?_ _)); exact BK171.out⟩, ⟨by repeat (first | (with_reducible first | exact HB.out | apply below_alloc | apply pw_below_drewN | apply below_drew1 | refine below_set ?_ GE169.out | refine below_set ?_ GE170.out | refine below_set ?_ GE171.out) | exact HB.out)⟩⟩
    case rest =>
     clear HC25
     try clear c1
     try clear c2
     try clear p2
     try clear c3
     try clear c7
     try clear c8
     try clear c10
     try clear c11
     try clear c14
     try clear c17
     try clear c18
     try clear c21
     try clear c22
     try clear c23
     try clear c24
     try clear c26
     try clear c26b0
     try clear c26b1
     try clear c27
     try clear c28
     try clear c30
     try clear c31
     try clear hcz12_0
     try clear hcz12_1
     try clear hcz12_2
     try clear hcz15_0
     try clear hcz15_1
     try clear hcz15_2
     try clear hcz19_0
     try clear hcz19_1
     try clear hcz19_2
     try clear hcz24_0
     try clear hcz24_1
     try clear hcz24_2
     try clear hcz29_0
     try clear hcz29_1
     try clear hcz29_2
     try clear hcz32_0
     try clear hcz32_1
     try clear hcz32_2
     try clear hfz12_0
     try clear hfz12_1
     try clear hfz12_2
     try clear hfz15_0
     try clear hfz15_1
     try clear hfz15_2
     try clear hfz19_0
     try clear hfz19_1
     try clear hfz19_2
     try clear hfz24_0
     try clear hfz24_1
     try clear hfz24_2
     try clear hfz29_0
     try clear hfz29_1
     try clear hfz29_2
     try clear hfz32_0
     try clear hfz32_1
     try clear hfz32_2
     try clear p2
     obtain ⟨kq, x6_24, rfl, HA, HJ24, BK169, BK170, BK171, HB⟩ := hcut
     cases kq with
     | zero => exact absurd HA.out (by simp [spec_Like.j1])
     | succ kj24 =>
      have H := HA.out
      clear HA
      simp only [spec_Like.j1] at H
      have HC33 := Aside0.mk H
      clear H
      go_upto_region 4 with (fail)
      go_cut [7] (fun v7 wc => ∃ (kq : Nat) (x7_32 : Bool), v7 = .bool x7_32 ∧ Aside0 (spec_Like.j2 kq x6_24 x7_32 a0_0 a0_1 a0_2 a1_0 a1_1 a1_2 = some (r1, r2, r3, r4)) ∧ Aside0 (kq ≤ kj24) ∧ Aside0 (wc.heap[gb169]? = some (.cells #[.int .i64 a0_0, .int .i64 a0_1, .string a0_2] 25 (0, 0))) ∧ Aside0 (wc.heap[gb170]? = some (.cells #[.int .i64 a1_0, .int .i64 a1_1, .string a1_2] 25 (0, 0))) ∧ Aside0 (wc.heap[gb171]? = some (.cells #[.int .i64 0, .int .i64 0, .string (⟨#[]⟩ : ByteArray)] 25 (0, 0))) ∧ Aside0 (Below w.heap.size w wc))
      case first =>
       have H := HC33.out
       clear HC33
       by_cases c34 : a1_0 = 3
       ·rw [if_pos c34] at H
        have c34b0 : (a1_0 == 3) = true := beq_iff_eq.mpr c34
        have c34b1 : (a1_0 != 3) = false := bne_eq_false_iff_eq.mpr c34
        clear c34
        (first | rw [c34b0] | (simp only [i64_w, i32_w]; rw [c34b0]) | skip)
        have H' := Aside0.mk H
        clear H
        have hnb35 := NB170_169.out
        have hnc35 := NB169_170.out
        have hnb36 := NB170_171.out
        have hnc36 := NB171_170.out
        have hcz37_0 : wc.cell? ⟨gb170, 0, none⟩ = some (.int .i64 a1_0) := (blk_cell BK170.out 0).trans rfl
        have hcz37_1 : wc.cell? ⟨gb170, 1, none⟩ = some (.int .i64 a1_1) := (blk_cell BK170.out 1).trans rfl
        have hcz37_2 : wc.cell? ⟨gb170, 2, none⟩ = some (.string a1_2) := (blk_cell BK170.out 2).trans rfl
        have hfz37_0 := blk_frozen BK170.out 0
        have hfz37_1 := blk_frozen BK170.out 1
        have hfz37_2 := blk_frozen BK170.out 2
        go_wp2
        go_meet
        case rel => exact ⟨_, (true), (by first | rfl | (simp; done) | (simp [*]; done)), H', ⟨by have := HJ2.out; have := HJ24.out; first | omega | exact Nat.le_refl _⟩, ⟨by (with_reducible repeat (first | refine blk_drewN ?_ _ | refine blk_drew ?_ | refine blk_alloc ?_ _)); exact BK169.out⟩, ⟨by (with_reducible repeat (first | refine blk_drewN ?_ _ | refine blk_drew ?_ | refine blk_alloc ?_ _)); exact BK170.out⟩, ⟨by (with_reducible repeat (first | refine blk_drewN ?_ _ | refine blk_drew ?_ | refine blk_alloc ?_ _)); exact BK171.out⟩, ⟨by repeat (first | (with_reducible first | exact HB.out | apply below_alloc | apply pw_below_drewN | apply below_drew1 | refine below_set ?_ GE169.out | refine below_set ?_ GE170.out | refine below_set ?_ GE171.out) | exact HB.out)⟩⟩
       ·rw [if_neg c34] at H
        have c34b0 : (a1_0 == 3) = false := beq_eq_false_iff_ne.mpr c34
        have c34b1 : (a1_0 != 3) = true := bne_iff_ne.mpr c34
        (first | rw [c34b0] | (simp only [i64_w, i32_w]; rw [c34b0]) | skip)
        have H' := Aside0.mk H
        clear H
        have hnb38 := NB170_169.out
        have hnc38 := NB169_170.out
        have hnb39 := NB170_171.out
        have hnc39 := NB171_170.out
        have hcz40_0 : wc.cell? ⟨gb170, 0, none⟩ = some (.int .i64 a1_0) := (blk_cell BK170.out 0).trans rfl
        have hcz40_1 : wc.cell? ⟨gb170, 1, none⟩ = some (.int .i64 a1_1) := (blk_cell BK170.out 1).trans rfl
        have hcz40_2 : wc.cell? ⟨gb170, 2, none⟩ = some (.string a1_2) := (blk_cell BK170.out 2).trans rfl
        have hfz40_0 := blk_frozen BK170.out 0
        have hfz40_1 := blk_frozen BK170.out 1
        have hfz40_2 := blk_frozen BK170.out 2
        go_wp2
        go_meet
        case rel => exact ⟨_, ((a1_0 == 0)), (by first | rfl | (simp; done) | (simp [*]; done)), H', ⟨by have := HJ2.out; have := HJ24.out; first | omega | exact Nat.le_refl _⟩, ⟨by (with_reducible repeat (first | refine blk_drewN ?_ _ | refine blk_drew ?_ | refine blk_alloc ?_ _)); exact BK169.out⟩, ⟨by (with_reducible repeat (first | refine blk_drewN ?_ _ | refine blk_drew ?_ | refine blk_alloc ?_ _)); exact BK170.out⟩, ⟨by (with_reducible repeat (first | refine blk_drewN ?_ _ | refine blk_drew ?_ | refine blk_alloc ?_ _)); exact BK171.out⟩, ⟨by repeat (first | (with_reducible first | exact HB.out | apply below_alloc | apply pw_below_drewN | apply below_drew1 | refine below_set ?_ GE169.out | refine below_set ?_ GE170.out | refine below_set ?_ GE171.out) | exact HB.out)⟩⟩
      case rest =>
       clear HC33
       try clear c1
       try clear c2
       try clear p2
       try clear c3
       try clear c7
       try clear c8
       try clear c10
       try clear c11
       try clear c14
       try clear c17
       try clear c18
       try clear c21
       try clear c22
       try clear c23
       try clear c24
       try clear c26
       try clear c26b0
       try clear c26b1
       try clear c27
       try clear c28
       try clear c30
       try clear c31
       try clear c34
       try clear c34b0
       try clear c34b1
       try clear c35
       try clear c36
       try clear c38
       try clear c39
       try clear hcz12_0
       try clear hcz12_1
       try clear hcz12_2
       try clear hcz15_0
       try clear hcz15_1
       try clear hcz15_2
       try clear hcz19_0
       try clear hcz19_1
       try clear hcz19_2
       try clear hcz24_0
       try clear hcz24_1
       try clear hcz24_2
       try clear hcz29_0
       try clear hcz29_1
       try clear hcz29_2
       try clear hcz32_0
       try clear hcz32_1
       try clear hcz32_2
       try clear hcz37_0
       try clear hcz37_1
       try clear hcz37_2
       try clear hcz40_0
       try clear hcz40_1
       try clear hcz40_2
       try clear hfz12_0
       try clear hfz12_1
       try clear hfz12_2
       try clear hfz15_0
       try clear hfz15_1
       try clear hfz15_2
       try clear hfz19_0
       try clear hfz19_1
       try clear hfz19_2
       try clear hfz24_0
       try clear hfz24_1
       try clear hfz24_2
       try clear hfz29_0
       try clear hfz29_1
       try clear hfz29_2
       try clear hfz32_0
       try clear hfz32_1
       try clear hfz32_2
       try clear hfz37_0
       try clear hfz37_1
       try clear hfz37_2
       try clear hfz40_0
       try clear hfz40_1
       try clear hfz40_2
       try clear p2
       obtain ⟨kq, x7_32, rfl, HA, HJ32, BK169, BK170, BK171, HB⟩ := hcut
       cases kq with
       | zero => exact absurd HA.out (by simp [spec_Like.j2])
       | succ kj32 =>
        have H := HA.out
        clear HA
        simp only [spec_Like.j2] at H
        have HC41 := Aside0.mk H
        clear H
        go_upto_region 5 with (fail)
        go_cut [47] (fun v47 wc => ∃ (kq : Nat) (x47_40 : Bool), v47 = .bool x47_40 ∧ Aside0 (spec_Like.j3 kq x47_40 a0_0 a0_1 a0_2 a1_0 a1_1 a1_2 = some (r1, r2, r3, r4)) ∧ Aside0 (kq ≤ kj32) ∧ Aside0 (wc.heap[gb169]? = some (.cells #[.int .i64 a0_0, .int .i64 a0_1, .string a0_2] 25 (0, 0))) ∧ Aside0 (wc.heap[gb170]? = some (.cells #[.int .i64 a1_0, .int .i64 a1_1, .string a1_2] 25 (0, 0))) ∧ Aside0 (wc.heap[gb171]? = some (.cells #[.int .i64 0, .int .i64 0, .string (⟨#[]⟩ : ByteArray)] 25 (0, 0))) ∧ Aside0 (Below w.heap.size w wc))
        case first =>
         have H := HC41.out
         clear HC41
         by_cases c42 : x6_24 = true
         ·subst c42
          have H1 : (spec_Like.j3 kj32 (!x7_32) a0_0 a0_1 a0_2 a1_0 a1_1 a1_2) = some (r1, r2, r3, r4) := by rw [if_pos rfl] at H; exact H
          clear H
          have H := H1
          clear H1
          have H' := Aside0.mk H
          clear H
          go_wp2
          go_meet
          case rel => exact ⟨_, (!x7_32), (by first | rfl | (simp; done) | (simp [*]; done)), H', ⟨by have := HJ2.out; have := HJ24.out; have := HJ32.out; first | omega | exact Nat.le_refl _⟩, ⟨by (with_reducible repeat (first | refine blk_drewN ?_ _ | refine blk_drew ?_ | refine blk_alloc ?_ _)); exact BK169.out⟩, ⟨by (with_reducible repeat (first | refine blk_drewN ?_ _ | refine blk_drew ?_ | refine blk_alloc ?_ _)); exact BK170.out⟩, ⟨by (with_reducible repeat (first | refine blk_drewN ?_ _ | refine blk_drew ?_ | refine blk_alloc ?_ _)); exact BK171.out⟩, ⟨by repeat (first | (with_reducible first | exact HB.out | apply below_alloc | apply pw_below_drewN | apply below_drew1 | refine below_set ?_ GE169.out | refine below_set ?_ GE170.out | refine below_set ?_ GE171.out) | exact HB.out)⟩⟩
         ·replace c42 := Bool.eq_false_iff.mpr c42
          subst c42
          have H1 : (spec_Like.j3 kj32 true a0_0 a0_1 a0_2 a1_0 a1_1 a1_2) = some (r1, r2, r3, r4) := by rw [if_neg (show ¬ (false = true) by decide)] at H; exact H
          clear H
          have H := H1
          clear H1
          have H' := Aside0.mk H
          clear H
          go_wp2
          go_meet
          case rel => exact ⟨_, (true), (by first | rfl | (simp; done) | (simp [*]; done)), H', ⟨by have := HJ2.out; have := HJ24.out; have := HJ32.out; first | omega | exact Nat.le_refl _⟩, ⟨by (with_reducible repeat (first | refine blk_drewN ?_ _ | refine blk_drew ?_ | refine blk_alloc ?_ _)); exact BK169.out⟩, ⟨by (with_reducible repeat (first | refine blk_drewN ?_ _ | refine blk_drew ?_ | refine blk_alloc ?_ _)); exact BK170.out⟩, ⟨by (with_reducible repeat (first | refine blk_drewN ?_ _ | refine blk_drew ?_ | refine blk_alloc ?_ _)); exact BK171.out⟩, ⟨by repeat (first | (with_reducible first | exact HB.out | apply below_alloc | apply pw_below_drewN | apply below_drew1 | refine below_set ?_ GE169.out | refine below_set ?_ GE170.out | refine below_set ?_ GE171.out) | exact HB.out)⟩⟩
        case rest =>
         clear HC41
         try clear c1
         try clear c2
         try clear p2
         try clear c3
         try clear c4
         try clear c7
         try clear c8
         try clear c10
         try clear c11
         try clear c14
         try clear c17
         try clear c18
         try clear c21
         try clear c22
         try clear c23
         try clear c24
         try clear c26
         try clear c26b0
         try clear c26b1
         try clear c27
         try clear c28
         try clear c30
         try clear c31
         try clear c34
         try clear c34b0
         try clear c34b1
         try clear c35
         try clear c36
         try clear c38
         try clear c39
         try clear c42
         try clear hcz12_0
         try clear hcz12_1
         try clear hcz12_2
         try clear hcz15_0
         try clear hcz15_1
         try clear hcz15_2
         try clear hcz19_0
         try clear hcz19_1
         try clear hcz19_2
         try clear hcz24_0
         try clear hcz24_1
         try clear hcz24_2
         try clear hcz29_0
         try clear hcz29_1
         try clear hcz29_2
         try clear hcz32_0
         try clear hcz32_1
         try clear hcz32_2
         try clear hcz37_0
         try clear hcz37_1
         try clear hcz37_2
         try clear hcz40_0
         try clear hcz40_1
         try clear hcz40_2
         try clear hfz12_0
         try clear hfz12_1
         try clear hfz12_2
         try clear hfz15_0
         try clear hfz15_1
         try clear hfz15_2
         try clear hfz19_0
         try clear hfz19_1
         try clear hfz19_2
         try clear hfz24_0
         try clear hfz24_1
         try clear hfz24_2
         try clear hfz29_0
         try clear hfz29_1
         try clear hfz29_2
         try clear hfz32_0
         try clear hfz32_1
         try clear hfz32_2
         try clear hfz37_0
         try clear hfz37_1
         try clear hfz37_2
         try clear hfz40_0
         try clear hfz40_1
         try clear hfz40_2
         try clear p2
         obtain ⟨kq, x47_40, rfl, HA, HJ40, BK169, BK170, BK171, HB⟩ := hcut
         cases kq with
         | zero => exact absurd HA.out (by simp [spec_Like.j3])
         | succ kj40 =>
          have H := HA.out
          clear HA
          simp only [spec_Like.j3] at H
          by_cases c43 : x47_40 = true
          ·subst c43
           have H1 : (some (0, 0, (⟨#[]⟩ : ByteArray), 10)) = some (r1, r2, r3, r4) := by rw [if_pos rfl] at H; exact H
           clear H
           have H := H1
           clear H1
           simp only [Option.some.injEq, Prod.mk.injEq] at H
           obtain ⟨rfl, rfl, rfl, rfl⟩ := H
           have hnb44 := NB171_169.out
           have hnc44 := NB169_171.out
           have hnb45 := NB171_170.out
           have hnc45 := NB170_171.out
           have hcz46_0 : wc.cell? ⟨gb171, 0, none⟩ = some (.int .i64 0) := (blk_cell BK171.out 0).trans rfl
           have hcz46_1 : wc.cell? ⟨gb171, 1, none⟩ = some (.int .i64 0) := (blk_cell BK171.out 1).trans rfl
           have hcz46_2 : wc.cell? ⟨gb171, 2, none⟩ = some (.string (⟨#[]⟩ : ByteArray)) := (blk_cell BK171.out 2).trans rfl
           have hfz46_0 := blk_frozen BK171.out 0
           have hfz46_1 := blk_frozen BK171.out 1
           have hfz46_2 := blk_frozen BK171.out 2
           go_wp2
           refine bodyPost_ret (results_ct rfl _ _ gb171 25 #[.int .i64 0, .int .i64 0, .string (⟨#[]⟩ : ByteArray)] (0, 0) _ rfl (by (with_reducible repeat (first | refine blk_drewN ?_ _ | refine blk_drew ?_ | refine blk_alloc ?_ _)); refine blk_put (cs := #[.int .i64 0, .int .i64 0, .string (⟨#[]⟩ : ByteArray)]) ?_ 2 _ rfl; (with_reducible repeat (first | refine blk_drewN ?_ _ | refine blk_drew ?_ | refine blk_alloc ?_ _)); refine blk_put (cs := #[.int .i64 0, .int .i64 0, .string (⟨#[]⟩ : ByteArray)]) ?_ 1 _ rfl; (with_reducible repeat (first | refine blk_drewN ?_ _ | refine blk_drew ?_ | refine blk_alloc ?_ _)); refine blk_put (cs := #[.int .i64 0, .int .i64 0, .string (⟨#[]⟩ : ByteArray)]) ?_ 0 _ rfl; (with_reducible repeat (first | refine blk_drewN ?_ _ | refine blk_drew ?_ | refine blk_alloc ?_ _)); exact BK171.out) Tryd.underlying25 rfl (by kernel_rfl)) rfl ?_
           exact ⟨by first | rfl | (simp [errW_none, errW_some] <;> rfl) | (simp [*, errW_none, errW_some] <;> rfl), by repeat (first | (with_reducible first | exact HB.out | apply below_alloc | apply pw_below_drewN | apply below_drew1 | refine below_set ?_ GE169.out | refine below_set ?_ GE170.out | refine below_set ?_ GE171.out) | exact HB.out)⟩
          ·replace c43 := Bool.eq_false_iff.mpr c43
           subst c43
           have H1 : (if a0_0 = 0 then (spec_Like.j4 kj40 true a0_0 a0_1 a0_2 a1_0 a1_1 a1_2) else (spec_Like.j4 kj40 (a1_0 == 0) a0_0 a0_1 a0_2 a1_0 a1_1 a1_2)) = some (r1, r2, r3, r4) := by rw [if_neg (show ¬ (false = true) by decide)] at H; exact H
           clear H
           have H := H1
           clear H1
           have HC47 := Aside0.mk H
           clear H
           go_upto_region 7 with (fail)
           go_cut [56] (fun v56 wc => ∃ (kq : Nat) (x56_46 : Bool), v56 = .bool x56_46 ∧ Aside0 (spec_Like.j4 kq x56_46 a0_0 a0_1 a0_2 a1_0 a1_1 a1_2 = some (r1, r2, r3, r4)) ∧ Aside0 (kq ≤ kj40) ∧ Aside0 (wc.heap[gb169]? = some (.cells #[.int .i64 a0_0, .int .i64 a0_1, .string a0_2] 25 (0, 0))) ∧ Aside0 (wc.heap[gb170]? = some (.cells #[.int .i64 a1_0, .int .i64 a1_1, .string a1_2] 25 (0, 0))) ∧ Aside0 (wc.heap[gb171]? = some (.cells #[.int .i64 0, .int .i64 0, .string (⟨#[]⟩ : ByteArray)] 25 (0, 0))) ∧ Aside0 (Below w.heap.size w wc))
           case first =>
            have H := HC47.out
            clear HC47
            by_cases c48 : a0_0 = 0
            ·rw [if_pos c48] at H
             have c48b0 : (a0_0 == 0) = true := beq_iff_eq.mpr c48
             have c48b1 : (a0_0 != 0) = false := bne_eq_false_iff_eq.mpr c48
             clear c48
             (first | rw [c48b0] | (simp only [i64_w, i32_w]; rw [c48b0]) | skip)
             have H' := Aside0.mk H
             clear H
             have hnb49 := NB169_170.out
             have hnc49 := NB170_169.out
             have hnb50 := NB169_171.out
             have hnc50 := NB171_169.out
             have hcz51_0 : wc.cell? ⟨gb169, 0, none⟩ = some (.int .i64 a0_0) := (blk_cell BK169.out 0).trans rfl
             have hcz51_1 : wc.cell? ⟨gb169, 1, none⟩ = some (.int .i64 a0_1) := (blk_cell BK169.out 1).trans rfl
             have hcz51_2 : wc.cell? ⟨gb169, 2, none⟩ = some (.string a0_2) := (blk_cell BK169.out 2).trans rfl
             have hfz51_0 := blk_frozen BK169.out 0
             have hfz51_1 := blk_frozen BK169.out 1
             have hfz51_2 := blk_frozen BK169.out 2
             go_wp2
             go_meet
             case rel => exact ⟨_, (true), (by first | rfl | (simp; done) | (simp [*]; done)), H', ⟨by have := HJ2.out; have := HJ24.out; have := HJ32.out; have := HJ40.out; first | omega | exact Nat.le_refl _⟩, ⟨by (with_reducible repeat (first | refine blk_drewN ?_ _ | refine blk_drew ?_ | refine blk_alloc ?_ _)); exact BK169.out⟩, ⟨by (with_reducible repeat (first | refine blk_drewN ?_ _ | refine blk_drew ?_ | refine blk_alloc ?_ _)); exact BK170.out⟩, ⟨by (with_reducible repeat (first | refine blk_drewN ?_ _ | refine blk_drew ?_ | refine blk_alloc ?_ _)); exact BK171.out⟩, ⟨by repeat (first | (with_reducible first | exact HB.out | apply below_alloc | apply pw_below_drewN | apply below_drew1 | refine below_set ?_ GE169.out | refine below_set ?_ GE170.out | refine below_set ?_ GE171.out) | exact HB.out)⟩⟩
            ·rw [if_neg c48] at H
             have c48b0 : (a0_0 == 0) = false := beq_eq_false_iff_ne.mpr c48
             have c48b1 : (a0_0 != 0) = true := bne_iff_ne.mpr c48
             (first | rw [c48b0] | (simp only [i64_w, i32_w]; rw [c48b0]) | skip)
             have H' := Aside0.mk H
             clear H
             have hnb52 := NB169_170.out
             have hnc52 := NB170_169.out
             have hnb53 := NB169_171.out
             have hnc53 := NB171_169.out
             have hcz54_0 : wc.cell? ⟨gb169, 0, none⟩ = some (.int .i64 a0_0) := (blk_cell BK169.out 0).trans rfl
             have hcz54_1 : wc.cell? ⟨gb169, 1, none⟩ = some (.int .i64 a0_1) := (blk_cell BK169.out 1).trans rfl
             have hcz54_2 : wc.cell? ⟨gb169, 2, none⟩ = some (.string a0_2) := (blk_cell BK169.out 2).trans rfl
             have hfz54_0 := blk_frozen BK169.out 0
             have hfz54_1 := blk_frozen BK169.out 1
             have hfz54_2 := blk_frozen BK169.out 2
             have hnb55 := NB170_171.out
             have hnc55 := NB171_170.out
             have hcz56_0 : wc.cell? ⟨gb170, 0, none⟩ = some (.int .i64 a1_0) := (blk_cell BK170.out 0).trans rfl
             have hcz56_1 : wc.cell? ⟨gb170, 1, none⟩ = some (.int .i64 a1_1) := (blk_cell BK170.out 1).trans rfl
             have hcz56_2 : wc.cell? ⟨gb170, 2, none⟩ = some (.string a1_2) := (blk_cell BK170.out 2).trans rfl
             have hfz56_0 := blk_frozen BK170.out 0
             have hfz56_1 := blk_frozen BK170.out 1
             have hfz56_2 := blk_frozen BK170.out 2
             go_wp2
             go_meet
             case rel => exact ⟨_, ((a1_0 == 0)), (by first | rfl | (simp; done) | (simp [*]; done)), H', ⟨by have := HJ2.out; have := HJ24.out; have := HJ32.out; have := HJ40.out; first | omega | exact Nat.le_refl _⟩, ⟨by (with_reducible repeat (first | refine blk_drewN ?_ _ | refine blk_drew ?_ | refine blk_alloc ?_ _)); exact BK169.out⟩, ⟨by (with_reducible repeat (first | refine blk_drewN ?_ _ | refine blk_drew ?_ | refine blk_alloc ?_ _)); exact BK170.out⟩, ⟨by (with_reducible repeat (first | refine blk_drewN ?_ _ | refine blk_drew ?_ | refine blk_alloc ?_ _)); exact BK171.out⟩, ⟨by repeat (first | (with_reducible first | exact HB.out | apply below_alloc | apply pw_below_drewN | apply below_drew1 | refine below_set ?_ GE169.out | refine below_set ?_ GE170.out | refine below_set ?_ GE171.out) | exact HB.out)⟩⟩
           case rest =>
            clear HC47
            try clear c1
            try clear c2
            try clear p2
            try clear c3
            try clear c4
            try clear c5
            try clear c7
            try clear c8
            try clear c10
            try clear c11
            try clear c14
            try clear c17
            try clear c18
            try clear c21
            try clear c22
            try clear c23
            try clear c24
            try clear c26
            try clear c26b0
            try clear c26b1
            try clear c27
            try clear c28
            try clear c30
            try clear c31
            try clear c34
            try clear c34b0
            try clear c34b1
            try clear c35
            try clear c36
            try clear c38
            try clear c39
            try clear c42
            try clear c43
            try clear c44
            try clear c45
            try clear c48
            try clear c48b0
            try clear c48b1
            try clear c49
            try clear c50
            try clear c52
            try clear c53
            try clear c55
            try clear hcz12_0
            try clear hcz12_1
            try clear hcz12_2
            try clear hcz15_0
            try clear hcz15_1
            try clear hcz15_2
            try clear hcz19_0
            try clear hcz19_1
            try clear hcz19_2
            try clear hcz24_0
            try clear hcz24_1
            try clear hcz24_2
            try clear hcz29_0
            try clear hcz29_1
            try clear hcz29_2
            try clear hcz32_0
            try clear hcz32_1
            try clear hcz32_2
            try clear hcz37_0
            try clear hcz37_1
            try clear hcz37_2
            try clear hcz40_0
            try clear hcz40_1
            try clear hcz40_2
            try clear hcz46_0
            try clear hcz46_1
            try clear hcz46_2
            try clear hcz51_0
            try clear hcz51_1
            try clear hcz51_2
            try clear hcz54_0
            try clear hcz54_1
            try clear hcz54_2
            try clear hcz56_0
            try clear hcz56_1
            try clear hcz56_2
            try clear hfz12_0
            try clear hfz12_1
            try clear hfz12_2
            try clear hfz15_0
            try clear hfz15_1
            try clear hfz15_2
            try clear hfz19_0
            try clear hfz19_1
            try clear hfz19_2
            try clear hfz24_0
            try clear hfz24_1
            try clear hfz24_2
            try clear hfz29_0
            try clear hfz29_1
            try clear hfz29_2
            try clear hfz32_0
            try clear hfz32_1
            try clear hfz32_2
            try clear hfz37_0
            try clear hfz37_1
            try clear hfz37_2
            try clear hfz40_0
            try clear hfz40_1
            try clear hfz40_2
            try clear hfz46_0
            try clear hfz46_1
            try clear hfz46_2
            try clear hfz51_0
            try clear hfz51_1
            try clear hfz51_2
            try clear hfz54_0
            try clear hfz54_1
            try clear hfz54_2
            try clear hfz56_0
            try clear hfz56_1
            try clear hfz56_2
            try clear p2
            obtain ⟨kq, x56_46, rfl, HA, HJ46, BK169, BK170, BK171, HB⟩ := hcut
            cases kq with
            | zero => exact absurd HA.out (by simp [spec_Like.j4])
            | succ kj46 =>
             have H := HA.out
             clear HA
             simp only [spec_Like.j4] at H
             by_cases c57 : x56_46 = true
             ·subst c57
              have H1 : (some (0, 0, (⟨#[]⟩ : ByteArray), 0)) = some (r1, r2, r3, r4) := by rw [if_pos rfl] at H; exact H
              clear H
              have H := H1
              clear H1
              simp only [Option.some.injEq, Prod.mk.injEq] at H
              obtain ⟨rfl, rfl, rfl, rfl⟩ := H
              have hnb58 := NB171_169.out
              have hnc58 := NB169_171.out
              have hnb59 := NB171_170.out
              have hnc59 := NB170_171.out
              have hcz60_0 : wc.cell? ⟨gb171, 0, none⟩ = some (.int .i64 0) := (blk_cell BK171.out 0).trans rfl
              have hcz60_1 : wc.cell? ⟨gb171, 1, none⟩ = some (.int .i64 0) := (blk_cell BK171.out 1).trans rfl
              have hcz60_2 : wc.cell? ⟨gb171, 2, none⟩ = some (.string (⟨#[]⟩ : ByteArray)) := (blk_cell BK171.out 2).trans rfl
              have hfz60_0 := blk_frozen BK171.out 0
              have hfz60_1 := blk_frozen BK171.out 1
              have hfz60_2 := blk_frozen BK171.out 2
              go_wp2
              refine bodyPost_ret (results_ct rfl _ _ gb171 25 #[.int .i64 0, .int .i64 0, .string (⟨#[]⟩ : ByteArray)] (0, 0) _ rfl (by (with_reducible repeat (first | refine blk_drewN ?_ _ | refine blk_drew ?_ | refine blk_alloc ?_ _)); refine blk_put (cs := #[.int .i64 0, .int .i64 0, .string (⟨#[]⟩ : ByteArray)]) ?_ 2 _ rfl; (with_reducible repeat (first | refine blk_drewN ?_ _ | refine blk_drew ?_ | refine blk_alloc ?_ _)); refine blk_put (cs := #[.int .i64 0, .int .i64 0, .string (⟨#[]⟩ : ByteArray)]) ?_ 1 _ rfl; (with_reducible repeat (first | refine blk_drewN ?_ _ | refine blk_drew ?_ | refine blk_alloc ?_ _)); refine blk_put (cs := #[.int .i64 0, .int .i64 0, .string (⟨#[]⟩ : ByteArray)]) ?_ 0 _ rfl; (with_reducible repeat (first | refine blk_drewN ?_ _ | refine blk_drew ?_ | refine blk_alloc ?_ _)); exact BK171.out) Tryd.underlying25 rfl (by kernel_rfl)) rfl ?_
              exact ⟨by first | rfl | (simp [errW_none, errW_some] <;> rfl) | (simp [*, errW_none, errW_some] <;> rfl), by repeat (first | (with_reducible first | exact HB.out | apply below_alloc | apply pw_below_drewN | apply below_drew1 | refine below_set ?_ GE169.out | refine below_set ?_ GE170.out | refine below_set ?_ GE171.out) | exact HB.out)⟩
             ·replace c57 := Bool.eq_false_iff.mpr c57
              subst c57
              have H1 : ((spec_l01Chars.f kj46 a0_2).bind fun bt174 => ((spec_l01Chars.f kj46 a1_2).bind fun bt178 => (if 0 ≤ (wrap64 ((bt174.1.length : Int) + 1)) then (if (wrap64 ((bt174.1.length : Int) + 1) : Int).toNat ≤ 281474976710656 then ((some (List.replicate (wrap64 ((bt174.1.length : Int) + 1) : Int).toNat false : List Bool)).bind fun y182 => (if 0 < (y182.length : Int) then ((spec_l01Pattern.f kj46 bt178.1).bind fun t186 => (spec_Like.l0 kj46 bt174.1 (y182.set (0 : Int).toNat true) t186 (t186.length : Int) 0)) else (none))) else (none)) else (none)))) = some (r1, r2, r3, r4) := by rw [if_neg (show ¬ (false = true) by decide)] at H; exact H
              clear H
              have H := H1
              clear H1
              replace H := Option.bind_eq_some_iff.mp H
              obtain ⟨⟨t174, t175⟩, A610, H⟩ := H
              replace H : ((spec_l01Chars.f kj46 a1_2).bind fun bt178 => (if 0 ≤ (wrap64 ((t174.length : Int) + 1)) then (if (wrap64 ((t174.length : Int) + 1) : Int).toNat ≤ 281474976710656 then ((some (List.replicate (wrap64 ((t174.length : Int) + 1) : Int).toNat false : List Bool)).bind fun y182 => (if 0 < (y182.length : Int) then ((spec_l01Pattern.f kj46 bt178.1).bind fun t186 => (spec_Like.l0 kj46 t174 (y182.set (0 : Int).toNat true) t186 (t186.length : Int) 0)) else (none))) else (none)) else (none))) = some (r1, r2, r3, r4) := H
              have A61 := Aside0.mk A610
              clear A610
              replace H := Option.bind_eq_some_iff.mp H
              obtain ⟨⟨t178, t179⟩, A620, H⟩ := H
              replace H : (if 0 ≤ (wrap64 ((t174.length : Int) + 1)) then (if (wrap64 ((t174.length : Int) + 1) : Int).toNat ≤ 281474976710656 then ((some (List.replicate (wrap64 ((t174.length : Int) + 1) : Int).toNat false : List Bool)).bind fun y182 => (if 0 < (y182.length : Int) then ((spec_l01Pattern.f kj46 t178).bind fun t186 => (spec_Like.l0 kj46 t174 (y182.set (0 : Int).toNat true) t186 (t186.length : Int) 0)) else (none))) else (none)) else (none)) = some (r1, r2, r3, r4) := H
              have A62 := Aside0.mk A620
              clear A620
              obtain ⟨ji63, hji63⟩ : ∃ j_ : Int, (wrap64 ((t174.length : Int) + 1)) = j_ := ⟨_, rfl⟩
              replace H : (if 0 ≤ (ji63) then (if (ji63 : Int).toNat ≤ 281474976710656 then ((some (List.replicate (ji63 : Int).toNat false : List Bool)).bind fun y182 => (if 0 < (y182.length : Int) then ((spec_l01Pattern.f kj46 t178).bind fun t186 => (spec_Like.l0 kj46 t174 (y182.set (0 : Int).toNat true) t186 (t186.length : Int) 0)) else (none))) else (none)) else (none)) = some (r1, r2, r3, r4) := by first | (rw [hji63] at H; exact H) | (simp only [hji63] at H ⊢; exact H)
              (try rw [hji63] at A61)
              (try rw [hji63] at A62)
              have hji63w : (IntKind.i64.wrap ((t174.length : Int) + 1)) = ji63 := (i64_w _).trans hji63
              by_cases c64 : 0 ≤ (ji63)
              ·rw [if_pos c64] at H
               have c64b0 := eq_true c64
               have c64b1 : decide (0 ≤ (ji63)) = true := decide_eq_true c64
               clear c64
               by_cases c65 : (ji63 : Int).toNat ≤ 281474976710656
               ·rw [if_pos c65] at H
                have c65b0 := eq_true c65
                have c65b1 : decide ((ji63 : Int).toNat ≤ 281474976710656) = true := decide_eq_true c65
                clear c65
                obtain ⟨y182, hy182⟩ : ∃ y_ : List Bool, y_ = (List.replicate (ji63 : Int).toNat false) := ⟨_, rfl⟩
                replace H : (if 0 < (y182.length : Int) then ((spec_l01Pattern.f kj46 t178).bind fun t186 => (spec_Like.l0 kj46 t174 (y182.set (0 : Int).toNat true) t186 (t186.length : Int) 0)) else (none)) = some (r1, r2, r3, r4) := by first | (rw [hy182]; with_reducible exact H) | (have H2_ := (Option.bind_some _ _).symm.trans H; rw [hy182]; with_reducible exact H2_) | (have H2_ := (Option.bind_some _ _).symm.trans H; with_reducible exact H2_) | with_reducible exact H | (rw [hy182]; exact H) | exact H
                have Ny182 := Aside0.mk hy182
                clear hy182
                by_cases c66 : 0 < (y182.length : Int)
                ·rw [if_pos c66] at H
                 have c66b0 : decide (0 < (y182.length : Int)) = true := decide_eq_true c66
                 have c66b1 : decide (0 < y182.length) = true := decide_eq_true (by omega)
                 clear c66
                 obtain ⟨y185, hy185⟩ : ∃ y_ : List Bool, y_ = (y182.set (0 : Int).toNat true) := ⟨_, rfl⟩
                 replace H : ((spec_l01Pattern.f kj46 t178).bind fun t186 => (spec_Like.l0 kj46 t174 y185 t186 (t186.length : Int) 0)) = some (r1, r2, r3, r4) := by first | (rw [hy185]; with_reducible exact H) | (have H2_ := (Option.bind_some _ _).symm.trans H; rw [hy185]; with_reducible exact H2_) | (have H2_ := (Option.bind_some _ _).symm.trans H; with_reducible exact H2_) | with_reducible exact H | (rw [hy185]; exact H) | exact H
                 have Ny185 := Aside0.mk hy185
                 clear hy185
                 replace H := Option.bind_eq_some_iff.mp H
                 obtain ⟨t186, A680, H⟩ := H
                 replace H : (spec_Like.l0 kj46 t174 y185 t186 (t186.length : Int) 0) = some (r1, r2, r3, r4) := H
                 have A68 := Aside0.mk A680
                 clear A680
                 have H' := Aside0.mk H
                 clear H
                 have hnb69 := NB169_170.out
                 have hnc69 := NB170_169.out
                 have hnb70 := NB169_171.out
                 have hnc70 := NB171_169.out
                 have hcz71_0 : wc.cell? ⟨gb169, 0, none⟩ = some (.int .i64 a0_0) := (blk_cell BK169.out 0).trans rfl
                 have hcz71_1 : wc.cell? ⟨gb169, 1, none⟩ = some (.int .i64 a0_1) := (blk_cell BK169.out 1).trans rfl
                 have hcz71_2 : wc.cell? ⟨gb169, 2, none⟩ = some (.string a0_2) := (blk_cell BK169.out 2).trans rfl
                 have hfz71_0 := blk_frozen BK169.out 0
                 have hfz71_1 := blk_frozen BK169.out 1
                 have hfz71_2 := blk_frozen BK169.out 2
                 go_wp2_with (first | ((with_reducible refine gate_callee (f := 25) rfl ?_); refine goesL_ (some 61) rfl rfl Tryd.func25 (by kernel_rfl) rfl #[.string a0_2] rfl (by (try simp only [List.map_toArray, List.map_cons, List.map_nil]); first | done | rfl | (simp only [List.length_drop, List.length_take]; rfl)) ?_; (with_reducible refine (spec_l01Chars.calls kj46 a0_2 t174 t175 _ A61.out).mono ?_); rintro e w72 ⟨v176, rfl, ho0, hb⟩; refine ⟨_, rfl, ?_⟩; have n0_ := Aside0.mk (Kd.R_lower ho0 (below_size (by repeat (first | (with_reducible first | exact HB.out | apply below_alloc | apply pw_below_drewN | apply below_drew1 | refine below_set ?_ GE169.out | refine below_set ?_ GE170.out | refine below_set ?_ GE171.out) | exact HB.out)))); have n1_ := Aside0.mk (blk_below (g := gb169) (o := .cells #[.int .i64 a0_0, .int .i64 a0_1, .string a0_2] 25 (0, 0)) (by (with_reducible repeat (first | refine blk_drewN ?_ _ | refine blk_drew ?_ | refine blk_alloc ?_ _)); exact BK169.out) hb); have n2_ := Aside0.mk (blk_below (g := gb170) (o := .cells #[.int .i64 a1_0, .int .i64 a1_1, .string a1_2] 25 (0, 0)) (by (with_reducible repeat (first | refine blk_drewN ?_ _ | refine blk_drew ?_ | refine blk_alloc ?_ _)); exact BK170.out) hb); have n3_ := Aside0.mk (blk_below (g := gb171) (o := .cells #[.int .i64 0, .int .i64 0, .string (⟨#[]⟩ : ByteArray)] 25 (0, 0)) (by (with_reducible repeat (first | refine blk_drewN ?_ _ | refine blk_drew ?_ | refine blk_alloc ?_ _)); exact BK171.out) hb); have n4_ := Aside0.mk (below_step (by repeat (first | (with_reducible first | exact HB.out | apply below_alloc | apply pw_below_drewN | apply below_drew1 | refine below_set ?_ GE169.out | refine below_set ?_ GE170.out | refine below_set ?_ GE171.out) | exact HB.out)) hb); clear BK169; clear BK170; clear BK171; clear HB; have HO177 := n0_; have BK169 := n1_; have BK170 := n2_; have BK171 := n3_; have HB := n4_; clear n0_ n1_ n2_ n3_ n4_; (try clear hb); (try clear hb2); (try clear hk); (try clear hi); (try clear ho0); have hnb73 := NB170_171.out; have hnc73 := NB171_170.out; have hcz74_0 : w72.cell? ⟨gb170, 0, none⟩ = some (.int .i64 a1_0) := (blk_cell BK170.out 0).trans rfl; have hcz74_1 : w72.cell? ⟨gb170, 1, none⟩ = some (.int .i64 a1_1) := (blk_cell BK170.out 1).trans rfl; have hcz74_2 : w72.cell? ⟨gb170, 2, none⟩ = some (.string a1_2) := (blk_cell BK170.out 2).trans rfl; have hfz74_0 := blk_frozen BK170.out 0; have hfz74_1 := blk_frozen BK170.out 1; have hfz74_2 := blk_frozen BK170.out 2) | ((with_reducible refine gate_callee (f := 25) rfl ?_); refine goesL_ (some 67) rfl rfl Tryd.func25 (by kernel_rfl) rfl #[.string a1_2] rfl (by (try simp only [List.map_toArray, List.map_cons, List.map_nil]); first | done | rfl | (simp only [List.length_drop, List.length_take]; rfl)) ?_; (with_reducible refine (spec_l01Chars.calls kj46 a1_2 t178 t179 _ A62.out).mono ?_); rintro e w75 ⟨v180, rfl, ho0, hb⟩; refine ⟨_, rfl, ?_⟩; have n0_ := Aside0.mk (Kd.R_elder' (by (with_reducible repeat (first | apply Kd.R_alloc | apply Kd.R_drewN | apply Kd.R_drew)); exact HO177.out) (Kd.R_base ho0) hb); have n1_ := Aside0.mk (Kd.R_lower (Kd.R_new' ho0 (Kd.R_lt (by (with_reducible repeat (first | apply Kd.R_alloc | apply Kd.R_drewN | apply Kd.R_drew)); exact HO177.out))) (below_size (by repeat (first | (with_reducible first | exact HB.out | apply below_alloc | apply pw_below_drewN | apply below_drew1 | refine below_set ?_ GE169.out | refine below_set ?_ GE170.out | refine below_set ?_ GE171.out) | exact HB.out)))); have n2_ := Aside0.mk (blk_below (g := gb169) (o := .cells #[.int .i64 a0_0, .int .i64 a0_1, .string a0_2] 25 (0, 0)) (by (with_reducible repeat (first | refine blk_drewN ?_ _ | refine blk_drew ?_ | refine blk_alloc ?_ _)); exact BK169.out) hb); have n3_ := Aside0.mk (blk_below (g := gb170) (o := .cells #[.int .i64 a1_0, .int .i64 a1_1, .string a1_2] 25 (0, 0)) (by (with_reducible repeat (first | refine blk_drewN ?_ _ | refine blk_drew ?_ | refine blk_alloc ?_ _)); exact BK170.out) hb); have n4_ := Aside0.mk (blk_below (g := gb171) (o := .cells #[.int .i64 0, .int .i64 0, .string (⟨#[]⟩ : ByteArray)] 25 (0, 0)) (by (with_reducible repeat (first | refine blk_drewN ?_ _ | refine blk_drew ?_ | refine blk_alloc ?_ _)); exact BK171.out) hb); have n5_ := Aside0.mk (below_step (by repeat (first | (with_reducible first | exact HB.out | apply below_alloc | apply pw_below_drewN | apply below_drew1 | refine below_set ?_ GE169.out | refine below_set ?_ GE170.out | refine below_set ?_ GE171.out) | exact HB.out)) hb); clear HO177; clear BK169; clear BK170; clear BK171; clear HB; have HO177 := n0_; have HO181 := n1_; have BK169 := n2_; have BK170 := n3_; have BK171 := n4_; have HB := n5_; clear n0_ n1_ n2_ n3_ n4_ n5_; (try clear hb); (try clear hb2); (try clear hk); (try clear hi); (try clear ho0); obtain ⟨Ao76, co76, eo76⟩ := Kd.R_slice HO177.out; subst eo76) | ((with_reducible refine gate_dst (N := 73) rfl ?_); refine Kd.R_make Kd.bool _ 4 rfl (N := 73) rfl 51 _ _ rfl ji63 rfl rfl Tryd.underlying51 (.bool false) 1 info4 rfl (by decide) (by omega) false (ok := fun _ => True) (okp := fun _ => True) rfl (fun _ hk => hk) trivial (of_decide_eq_true (by first | (with_reducible assumption) | assumption)) (Nat.le_trans (Nat.mul_le_mul_right _ (of_decide_eq_true (by first | (with_reducible assumption) | assumption) : ji63.toNat ≤ 281474976710656)) (by omega)) (Below.refl _ _) (Nat.le_refl _) ?_; intro v183 w77 ho78 hb hg_ hnew_; clear hg_ hnew_; (first | rw [← Ny182.out] at ho78 | (simp only [Int.reduceToNat] at ho78; rw [← Ny182.out] at ho78)); have n0_ := Aside0.mk (Kd.R_below (by (with_reducible repeat (first | apply Kd.R_alloc | apply Kd.R_drewN | apply Kd.R_drew)); exact HO177.out) hb); have n1_ := Aside0.mk (Kd.R_below (by (with_reducible repeat (first | apply Kd.R_alloc | apply Kd.R_drewN | apply Kd.R_drew)); exact HO181.out) hb); have n2_ := Aside0.mk (Kd.R_lower ho78 (below_size (by repeat (first | (with_reducible first | exact HB.out | apply below_alloc | apply pw_below_drewN | apply below_drew1 | refine below_set ?_ GE169.out | refine below_set ?_ GE170.out | refine below_set ?_ GE171.out) | exact HB.out)))); have n3_ := Aside0.mk (blk_below (g := gb169) (o := .cells #[.int .i64 a0_0, .int .i64 a0_1, .string a0_2] 25 (0, 0)) (by (with_reducible repeat (first | refine blk_drewN ?_ _ | refine blk_drew ?_ | refine blk_alloc ?_ _)); exact BK169.out) hb); have n4_ := Aside0.mk (blk_below (g := gb170) (o := .cells #[.int .i64 a1_0, .int .i64 a1_1, .string a1_2] 25 (0, 0)) (by (with_reducible repeat (first | refine blk_drewN ?_ _ | refine blk_drew ?_ | refine blk_alloc ?_ _)); exact BK170.out) hb); have n5_ := Aside0.mk (blk_below (g := gb171) (o := .cells #[.int .i64 0, .int .i64 0, .string (⟨#[]⟩ : ByteArray)] 25 (0, 0)) (by (with_reducible repeat (first | refine blk_drewN ?_ _ | refine blk_drew ?_ | refine blk_alloc ?_ _)); exact BK171.out) hb); have n6_ := Aside0.mk (below_step (by repeat (first | (with_reducible first | exact HB.out | apply below_alloc | apply pw_below_drewN | apply below_drew1 | refine below_set ?_ GE169.out | refine below_set ?_ GE170.out | refine below_set ?_ GE171.out) | exact HB.out)) hb); clear HO177; clear HO181; clear BK169; clear BK170; clear BK171; clear HB; have HO177 := n0_; have HO181 := n1_; have HO184 := n2_; have BK169 := n3_; have BK170 := n4_; have BK171 := n5_; have HB := n6_; clear n0_ n1_ n2_ n3_ n4_ n5_ n6_; clear hb ho78; have p67 : 0 ≤ (0 : Int) := (by omega); have q67 : (0 : Int) < ((y182.length : Int) : Int) := of_decide_eq_true (by first | (with_reducible assumption) | assumption); have qi67 : (0 < y182.length) = True := eq_true (by omega); obtain ⟨go67, co67, eo67, gb67, gl67, cl67, HG67⟩ := Kd.R_form HO184.out (by omega); (first | cases eo67 | (injection eo67 with ea_ en_ ec_; (first | subst ea_ | (injection ea_ with ea_; subst ea_)); subst ec_; clear en_)); have GB67 := Aside0.mk gb67; have GG67 := Aside0.mk HG67; clear gb67 gl67 HG67; obtain ⟨hx67_0, hf67_0⟩ := Kd.R_celln false HO184.out (0 : Int) p67 q67; (try rw [show ((0 : Int)).toNat = 0 from rfl] at hx67_0); (try simp only [Nat.reduceMul, Nat.zero_mul, Nat.zero_add, Nat.reduceAdd] at hx67_0); (try rw [show ((0 : Int)).toNat = 0 from rfl] at hf67_0); (try simp only [Nat.reduceMul, Nat.zero_mul, Nat.zero_add, Nat.reduceAdd] at hf67_0); replace p67 := eq_true p67; replace q67 := eq_true q67; obtain ⟨hy79_, hz79_⟩ := Kd.R_celln false HO184.out (0 : Int) (by omega) (of_decide_eq_true (by first | (with_reducible assumption) | assumption)); (try simp only [Int.reduceToNat, Int.toNat_zero, Int.toNat_ofNat, Nat.reduceMul, Nat.zero_mul, Nat.zero_add] at hy79_ hz79_); (try rw [show ((0 : Int)).toNat = 0 from rfl] at hy79_); (try rw [show ((0 : Int)).toNat = 0 from rfl] at hz79_); have HP79 := Kd.R_putg HO184.out (0 : Int) true) | ((with_reducible refine gate_store (t := 4) (p := 75) rfl ?_); refine store_event (t := 4) (p := 75) (v := ?vo_w80) (w1 := (w77.setCell ⟨go67, (0 : Int).toNat, none⟩ (.bool true))) ?hg ?ho ?hn ?hr ?_; (case ho => rfl); (case hg => rfl); (case hn => rfl); (case hr => first | (go_simp; done) | (go_simp; rfl)); intro w80 hw; have hg : w77.grownBy w80 (some go67) := (by rw [hw]; exact HP79.2); have hp_ : Kd.R Kd.bool 4 w80 w.heap.size (fun _ => True) (.slice (some ⟨go67, 0, none⟩) y182.length co67) y185 := (by rw [hw, Ny185.out]; exact HP79.1); clear HP79; have n0_ := Aside0.mk (blk_grown (g := gb169) (o := .cells #[.int .i64 a0_0, .int .i64 a0_1, .string a0_2] 25 (0, 0)) (by (with_reducible repeat (first | refine blk_drewN ?_ _ | refine blk_drew ?_ | refine blk_alloc ?_ _)); exact BK169.out) hg (Kd.R_ne HO184.out BK169.out (by decide))); have n1_ := Aside0.mk (blk_grown (g := gb170) (o := .cells #[.int .i64 a1_0, .int .i64 a1_1, .string a1_2] 25 (0, 0)) (by (with_reducible repeat (first | refine blk_drewN ?_ _ | refine blk_drew ?_ | refine blk_alloc ?_ _)); exact BK170.out) hg (Kd.R_ne HO184.out BK170.out (by decide))); have n2_ := Aside0.mk (blk_grown (g := gb171) (o := .cells #[.int .i64 0, .int .i64 0, .string (⟨#[]⟩ : ByteArray)] 25 (0, 0)) (by (with_reducible repeat (first | refine blk_drewN ?_ _ | refine blk_drew ?_ | refine blk_alloc ?_ _)); exact BK171.out) hg (Kd.R_ne HO184.out BK171.out (by decide))); have n3_ := Aside0.mk (Kd.R_over' (v := (.slice (some ⟨go67, 0, none⟩) y182.length co67)) (by (with_reducible repeat (first | apply Kd.R_alloc | apply Kd.R_drewN | apply Kd.R_drew)); exact HO177.out) (Kd.R_typed HO184.out) (by decide) hg); have n4_ := Aside0.mk (Kd.R_over' (v := (.slice (some ⟨go67, 0, none⟩) y182.length co67)) (by (with_reducible repeat (first | apply Kd.R_alloc | apply Kd.R_drewN | apply Kd.R_drew)); exact HO181.out) (Kd.R_typed HO184.out) (by decide) hg); have n5_ := Aside0.mk (hp_); have n6_ := Aside0.mk ((by rw [hw]; exact below_set (HB.out) GB67.out : Below w.heap.size w w80)); clear BK169; clear BK170; clear BK171; clear HO177; clear HO181; clear HO184; clear HB; have BK169 := n0_; have BK170 := n1_; have BK171 := n2_; have HO177 := n3_; have HO181 := n4_; have HO184 := n5_; have HB := n6_; clear n0_ n1_ n2_ n3_ n4_ n5_ n6_; clear hg hw hp_; obtain ⟨Ao81, co81, eo81⟩ := Kd.R_slice HO181.out; subst eo81) | ((with_reducible refine gate_callee (f := 26) rfl ?_); refine goesL_ (some 77) rfl rfl Tryd.func26 (by kernel_rfl) rfl #[.slice Ao81 t178.length co81] rfl (by (try simp only [List.map_toArray, List.map_cons, List.map_nil]); first | done | rfl | (simp only [List.length_drop, List.length_take]; rfl)) ?_; (with_reducible refine (spec_l01Pattern.calls kj46 _ _ t178 t186 _ ?side1 ?side2 A68.out).mono ?_); (case side1 => repeat (first | exact (Kd.R_reads' HO181.out).2.2 | (with_reducible refine Kd.C_alloc ?_ _) | (with_reducible refine Kd.C_drewN ?_ _) | (with_reducible refine Kd.C_drew ?_))); (case side2 => exact (Kd.R_reads' HO181.out).2.1); rintro e w82 ⟨v187, rfl, ho0, hb⟩; refine ⟨_, rfl, ?_⟩; have n0_ := Aside0.mk (Kd.R_elder' (by (with_reducible repeat (first | apply Kd.R_alloc | apply Kd.R_drewN | apply Kd.R_drew)); exact HO177.out) (Kd.R_base ho0) hb); have n1_ := Aside0.mk (Kd.R_elder' (by (with_reducible repeat (first | apply Kd.R_alloc | apply Kd.R_drewN | apply Kd.R_drew)); exact HO181.out) (Kd.R_base ho0) hb); have n2_ := Aside0.mk (Kd.R_below (by (with_reducible repeat (first | apply Kd.R_alloc | apply Kd.R_drewN | apply Kd.R_drew)); exact HO184.out) hb); have n3_ := Aside0.mk (Kd.R_lower (Kd.R_new' (Kd.R_new' ho0 (Kd.R_lt (by (with_reducible repeat (first | apply Kd.R_alloc | apply Kd.R_drewN | apply Kd.R_drew)); exact HO177.out))) (Kd.R_lt (by (with_reducible repeat (first | apply Kd.R_alloc | apply Kd.R_drewN | apply Kd.R_drew)); exact HO181.out))) (below_size (by repeat (first | (with_reducible first | exact HB.out | apply below_alloc | apply pw_below_drewN | apply below_drew1 | refine below_set ?_ GE169.out | refine below_set ?_ GE170.out | refine below_set ?_ GE171.out) | exact HB.out)))); have n4_ := Aside0.mk (blk_below (g := gb169) (o := .cells #[.int .i64 a0_0, .int .i64 a0_1, .string a0_2] 25 (0, 0)) (by (with_reducible repeat (first | refine blk_drewN ?_ _ | refine blk_drew ?_ | refine blk_alloc ?_ _)); exact BK169.out) hb); have n5_ := Aside0.mk (blk_below (g := gb170) (o := .cells #[.int .i64 a1_0, .int .i64 a1_1, .string a1_2] 25 (0, 0)) (by (with_reducible repeat (first | refine blk_drewN ?_ _ | refine blk_drew ?_ | refine blk_alloc ?_ _)); exact BK170.out) hb); have n6_ := Aside0.mk (blk_below (g := gb171) (o := .cells #[.int .i64 0, .int .i64 0, .string (⟨#[]⟩ : ByteArray)] 25 (0, 0)) (by (with_reducible repeat (first | refine blk_drewN ?_ _ | refine blk_drew ?_ | refine blk_alloc ?_ _)); exact BK171.out) hb); have n7_ := Aside0.mk (below_step (by repeat (first | (with_reducible first | exact HB.out | apply below_alloc | apply pw_below_drewN | apply below_drew1 | refine below_set ?_ GE169.out | refine below_set ?_ GE170.out | refine below_set ?_ GE171.out) | exact HB.out)) hb); clear HO177; clear HO181; clear HO184; clear BK169; clear BK170; clear BK171; clear HB; have HO177 := n0_; have HO181 := n1_; have HO184 := n2_; have HO188 := n3_; have BK169 := n4_; have BK170 := n5_; have BK171 := n6_; have HB := n7_; clear n0_ n1_ n2_ n3_ n4_ n5_ n6_ n7_; (try clear hb); (try clear hb2); (try clear hk); (try clear hi); (try clear ho0); obtain ⟨Ao83, co83, eo83⟩ := Kd.R_slice HO188.out; subst eo83))
                 go_loopg [12, 79] kj46 (fun kq v12 v79 w' => ∃ (x12_6 : List Bool) (x79_6 : Int), v79 = .int .i64 x79_6 ∧ Aside0 (spec_Like.l0 kq t174 x12_6 t186 (t186.length : Int) x79_6 = some (r1, r2, r3, r4)) ∧ Aside0 (kq ≤ kj46) ∧ Aside0 (Kd.R (Kd.int .i64) 3 w' w.heap.size (fun k_ => some k_ ≠ ((.slice Ao83 t186.length co83) : Value).ownBlock) (.slice Ao76 t174.length co76) t174) ∧ Aside0 (Kd.R Kd.bool 4 w' w.heap.size (fun _ => True) v12 x12_6) ∧ Aside0 (Kd.R (Kd.int .i64) 3 w' w.heap.size (fun k_ => some k_ ≠ ((.slice Ao76 t174.length co76) : Value).ownBlock) (.slice Ao83 t186.length co83) t186) ∧ Aside0 (w'.heap[gb169]? = some (.cells #[.int .i64 a0_0, .int .i64 a0_1, .string a0_2] 25 (0, 0))) ∧ Aside0 (w'.heap[gb170]? = some (.cells #[.int .i64 a1_0, .int .i64 a1_1, .string a1_2] 25 (0, 0))) ∧ Aside0 (w'.heap[gb171]? = some (.cells #[.int .i64 0, .int .i64 0, .string (⟨#[]⟩ : ByteArray)] 25 (0, 0))) ∧ Aside0 (Below w.heap.size w w'))
                 case atStart => exact ⟨(y185), (0), (by first | rfl | (simp; done) | (simp [*]; done)), H', ⟨Nat.le_refl _⟩, ⟨by (with_reducible repeat (first | apply Kd.R_alloc | apply Kd.R_drewN | apply Kd.R_drew)); exact Kd.R_mono HO177.out (fun _ hk => hk.2)⟩, ⟨by (with_reducible repeat (first | apply Kd.R_alloc | apply Kd.R_drewN | apply Kd.R_drew)); exact HO184.out⟩, ⟨by (with_reducible repeat (first | apply Kd.R_alloc | apply Kd.R_drewN | apply Kd.R_drew)); exact Kd.R_mono HO188.out (fun _ hk => hk.1.2)⟩, ⟨by (with_reducible repeat (first | refine blk_drewN ?_ _ | refine blk_drew ?_ | refine blk_alloc ?_ _)); exact BK169.out⟩, ⟨by (with_reducible repeat (first | refine blk_drewN ?_ _ | refine blk_drew ?_ | refine blk_alloc ?_ _)); exact BK170.out⟩, ⟨by (with_reducible repeat (first | refine blk_drewN ?_ _ | refine blk_drew ?_ | refine blk_alloc ?_ _)); exact BK171.out⟩, ⟨by repeat (first | (with_reducible first | exact HB.out | apply below_alloc | apply pw_below_drewN | apply below_drew1 | refine below_set ?_ GE169.out | refine below_set ?_ GE170.out | refine below_set ?_ GE171.out) | exact HB.out)⟩⟩
                 case round =>
                  clear H'
                  try clear c1
                  try clear c2
                  try clear p2
                  try clear c3
                  try clear c4
                  try clear c5
                  try clear c6
                  try clear p6
                  try clear q6
                  try clear hx6
                  try clear qi6
                  try clear hf6
                  try clear c7
                  try clear c8
                  try clear c10
                  try clear c11
                  try clear c14
                  try clear c17
                  try clear c18
                  try clear c21
                  try clear c22
                  try clear c23
                  try clear c24
                  try clear c25
                  try clear c26
                  try clear c26b0
                  try clear c26b1
                  try clear c27
                  try clear c28
                  try clear c30
                  try clear c31
                  try clear c34
                  try clear c34b0
                  try clear c34b1
                  try clear c35
                  try clear c36
                  try clear c38
                  try clear c39
                  try clear c42
                  try clear c43
                  try clear c44
                  try clear c45
                  try clear c48
                  try clear c48b0
                  try clear c48b1
                  try clear c49
                  try clear c50
                  try clear c52
                  try clear c53
                  try clear c55
                  try clear c57
                  try clear c58
                  try clear c59
                  try clear c64
                  try clear c64b0
                  try clear c64b1
                  try clear p64
                  try clear c65
                  try clear c65b0
                  try clear c65b1
                  try clear c66
                  try clear c66b0
                  try clear c66b1
                  try clear p67
                  try clear q67
                  try clear hx67
                  try clear qi67
                  try clear hf67
                  try clear c69
                  try clear c70
                  try clear c73
                  try clear hcz12_0
                  try clear hcz12_1
                  try clear hcz12_2
                  try clear hcz15_0
                  try clear hcz15_1
                  try clear hcz15_2
                  try clear hcz19_0
                  try clear hcz19_1
                  try clear hcz19_2
                  try clear hcz24_0
                  try clear hcz24_1
                  try clear hcz24_2
                  try clear hcz29_0
                  try clear hcz29_1
                  try clear hcz29_2
                  try clear hcz32_0
                  try clear hcz32_1
                  try clear hcz32_2
                  try clear hcz37_0
                  try clear hcz37_1
                  try clear hcz37_2
                  try clear hcz40_0
                  try clear hcz40_1
                  try clear hcz40_2
                  try clear hcz46_0
                  try clear hcz46_1
                  try clear hcz46_2
                  try clear hcz51_0
                  try clear hcz51_1
                  try clear hcz51_2
                  try clear hcz54_0
                  try clear hcz54_1
                  try clear hcz54_2
                  try clear hcz56_0
                  try clear hcz56_1
                  try clear hcz56_2
                  try clear hcz60_0
                  try clear hcz60_1
                  try clear hcz60_2
                  try clear hcz71_0
                  try clear hcz71_1
                  try clear hcz71_2
                  try clear hcz74_0
                  try clear hcz74_1
                  try clear hcz74_2
                  try clear hfz12_0
                  try clear hfz12_1
                  try clear hfz12_2
                  try clear hfz15_0
                  try clear hfz15_1
                  try clear hfz15_2
                  try clear hfz19_0
                  try clear hfz19_1
                  try clear hfz19_2
                  try clear hfz24_0
                  try clear hfz24_1
                  try clear hfz24_2
                  try clear hfz29_0
                  try clear hfz29_1
                  try clear hfz29_2
                  try clear hfz32_0
                  try clear hfz32_1
                  try clear hfz32_2
                  try clear hfz37_0
                  try clear hfz37_1
                  try clear hfz37_2
                  try clear hfz40_0
                  try clear hfz40_1
                  try clear hfz40_2
                  try clear hfz46_0
                  try clear hfz46_1
                  try clear hfz46_2
                  try clear hfz51_0
                  try clear hfz51_1
                  try clear hfz51_2
                  try clear hfz54_0
                  try clear hfz54_1
                  try clear hfz54_2
                  try clear hfz56_0
                  try clear hfz56_1
                  try clear hfz56_2
                  try clear hfz60_0
                  try clear hfz60_1
                  try clear hfz60_2
                  try clear hfz71_0
                  try clear hfz71_1
                  try clear hfz71_2
                  try clear hfz74_0
                  try clear hfz74_1
                  try clear hfz74_2
                  try clear hx67_0
                  try clear p2
                  try clear p67
                  try clear q67
                  obtain ⟨x12_6, x79_6, rfl, HA, HK6, HO_8, HO_12, HO_77, BK169, BK170, BK171, HB⟩ := hrel
                  cases gk with
                  | zero => exact absurd HA.out (by simp [spec_Like.l0])
                  | succ k6 =>
                   have H := HA.out
                   clear HA
                   simp only [spec_Like.l0] at H
                   by_cases c84 : x79_6 < (t186.length : Int)
                   ·rw [if_pos c84] at H
                    have c84b0 : decide (x79_6 < (t186.length : Int)) = true := decide_eq_true c84
                    clear c84
                    by_cases c85 : 0 ≤ x79_6
                    ·rw [if_pos c85] at H
                     have c85b0 : decide (0 ≤ x79_6) = true := decide_eq_true c85
                     clear c85
                     by_cases c86 : x79_6 < (t186.length : Int)
                     ·rw [if_pos c86] at H
                      have c86b0 : decide (x79_6 < (t186.length : Int)) = true := decide_eq_true c86
                      clear c86
                      obtain ⟨ji87, hji87⟩ : ∃ j_ : Int, (wrap64 ((t174.length : Int) + 1)) = j_ := ⟨_, rfl⟩
                      replace H : (if 0 ≤ (ji87) then (if (ji87 : Int).toNat ≤ 281474976710656 then (spec_Like.l1 k6 t174 x12_6 (rd t186 x79_6) (List.replicate (ji87 : Int).toNat false) 0 t186 (t186.length : Int) x79_6) else (none)) else (none)) = some (r1, r2, r3, r4) := by first | (rw [hji87] at H; exact H) | (simp only [hji87] at H ⊢; exact H)
                      try clear hji63w
                      have hji87w : (IntKind.i64.wrap ((t174.length : Int) + 1)) = ji87 := (i64_w _).trans hji87
                      by_cases c88 : 0 ≤ (ji87)
                      ·rw [if_pos c88] at H
                       have c88b0 := eq_true c88
                       have c88b1 : decide (0 ≤ (ji87)) = true := decide_eq_true c88
                       clear c88
                       by_cases c89 : (ji87 : Int).toNat ≤ 281474976710656
                       ·rw [if_pos c89] at H
                        have c89b0 := eq_true c89
                        have c89b1 : decide ((ji87 : Int).toNat ≤ 281474976710656) = true := decide_eq_true c89
                        clear c89
                        obtain ⟨y194, hy194⟩ : ∃ y_ : List Bool, y_ = (List.replicate (ji87 : Int).toNat false) := ⟨_, rfl⟩
                        replace H : (spec_Like.l1 k6 t174 x12_6 (rd t186 x79_6) y194 0 t186 (t186.length : Int) x79_6) = some (r1, r2, r3, r4) := by first | (rw [hy194]; with_reducible exact H) | (have H2_ := (Option.bind_some _ _).symm.trans H; rw [hy194]; with_reducible exact H2_) | (have H2_ := (Option.bind_some _ _).symm.trans H; with_reducible exact H2_) | with_reducible exact H | (rw [hy194]; exact H) | exact H
                        have Ny194 := Aside0.mk hy194
                        clear hy194
                        have H' := Aside0.mk H
                        clear H
                        have p193 : 0 ≤ (x79_6 : Int) := of_decide_eq_true (by first | (with_reducible assumption) | assumption)
                        have q193 : x79_6 < (t186.length : Int) := of_decide_eq_true (by first | (with_reducible assumption) | assumption)
                        obtain ⟨ad193, e193, hx193_0⟩ := Kd.at_int (Kd.R_reads' HO_77.out).2.2 x79_6 p193 q193
                        cases e193
                        replace p193 := eq_true p193
                        replace q193 := eq_true q193
                        go_wp2_with (first | ((with_reducible refine gate_dst (N := 86) rfl ?_); refine Kd.R_make Kd.bool _ 4 rfl (N := 86) rfl 51 _ _ rfl ji87 rfl rfl Tryd.underlying51 (.bool false) 1 info4 rfl (by decide) (by omega) false (ok := fun _ => True) (okp := fun _ => True) rfl (fun _ hk => hk) trivial (of_decide_eq_true (by first | (with_reducible assumption) | assumption)) (Nat.le_trans (Nat.mul_le_mul_right _ (of_decide_eq_true (by first | (with_reducible assumption) | assumption) : ji87.toNat ≤ 281474976710656)) (by omega)) (Below.refl _ _) (Nat.le_refl _) ?_; intro v195 w90 ho91 hb hg_ hnew_; clear hg_ hnew_; (first | rw [← Ny194.out] at ho91 | (simp only [Int.reduceToNat] at ho91; rw [← Ny194.out] at ho91)); have n0_ := Aside0.mk (Kd.R_below (by (with_reducible repeat (first | apply Kd.R_alloc | apply Kd.R_drewN | apply Kd.R_drew)); exact HO_8.out) hb); have n1_ := Aside0.mk (Kd.R_elder' (by (with_reducible repeat (first | apply Kd.R_alloc | apply Kd.R_drewN | apply Kd.R_drew)); exact HO_12.out) (Kd.R_base ho91) hb); have n2_ := Aside0.mk (Kd.R_below (by (with_reducible repeat (first | apply Kd.R_alloc | apply Kd.R_drewN | apply Kd.R_drew)); exact HO_77.out) hb); have n3_ := Aside0.mk (Kd.R_lower (Kd.R_new' ho91 (Kd.R_lt (by (with_reducible repeat (first | apply Kd.R_alloc | apply Kd.R_drewN | apply Kd.R_drew)); exact HO_12.out))) (below_size (by repeat (first | (with_reducible first | exact HB.out | apply below_alloc | apply pw_below_drewN | apply below_drew1 | refine below_set ?_ GE169.out | refine below_set ?_ GE170.out | refine below_set ?_ GE171.out) | exact HB.out)))); have n4_ := Aside0.mk (blk_below (g := gb169) (o := .cells #[.int .i64 a0_0, .int .i64 a0_1, .string a0_2] 25 (0, 0)) (by (with_reducible repeat (first | refine blk_drewN ?_ _ | refine blk_drew ?_ | refine blk_alloc ?_ _)); exact BK169.out) hb); have n5_ := Aside0.mk (blk_below (g := gb170) (o := .cells #[.int .i64 a1_0, .int .i64 a1_1, .string a1_2] 25 (0, 0)) (by (with_reducible repeat (first | refine blk_drewN ?_ _ | refine blk_drew ?_ | refine blk_alloc ?_ _)); exact BK170.out) hb); have n6_ := Aside0.mk (blk_below (g := gb171) (o := .cells #[.int .i64 0, .int .i64 0, .string (⟨#[]⟩ : ByteArray)] 25 (0, 0)) (by (with_reducible repeat (first | refine blk_drewN ?_ _ | refine blk_drew ?_ | refine blk_alloc ?_ _)); exact BK171.out) hb); have n7_ := Aside0.mk (below_step (by repeat (first | (with_reducible first | exact HB.out | apply below_alloc | apply pw_below_drewN | apply below_drew1 | refine below_set ?_ GE169.out | refine below_set ?_ GE170.out | refine below_set ?_ GE171.out) | exact HB.out)) hb); clear HO_8; clear HO_12; clear HO_77; clear BK169; clear BK170; clear BK171; clear HB; have HO_8 := n0_; have HO_12 := n1_; have HO_77 := n2_; have HO196 := n3_; have BK169 := n4_; have BK170 := n5_; have BK171 := n6_; have HB := n7_; clear n0_ n1_ n2_ n3_ n4_ n5_ n6_ n7_; clear hb ho91))
                        go_loopg [16] k6 (fun kq v16 w' => ∃ (x15_7 : List Bool) (x16_7 : Int), v16 = .int .i64 x16_7 ∧ Aside0 (spec_Like.l1 kq t174 x12_6 (rd t186 x79_6) x15_7 x16_7 t186 (t186.length : Int) x79_6 = some (r1, r2, r3, r4)) ∧ Aside0 (kq ≤ k6) ∧ Aside0 (Kd.R (Kd.int .i64) 3 w' w.heap.size (fun k_ => some k_ ≠ ((.slice (some ad193) t186.length co83) : Value).ownBlock) (.slice Ao76 t174.length co76) t174) ∧ Aside0 (Kd.R Kd.bool 4 w' w.heap.size (fun k_ => some k_ ≠ (v195 : Value).ownBlock) u12 x12_6) ∧ Aside0 (Kd.R Kd.bool 4 w' w.heap.size (fun k_ => some k_ ≠ (u12 : Value).ownBlock) v195 x15_7) ∧ Aside0 (Kd.R (Kd.int .i64) 3 w' w.heap.size (fun k_ => some k_ ≠ ((.slice Ao76 t174.length co76) : Value).ownBlock) (.slice (some ad193) t186.length co83) t186) ∧ Aside0 (w'.heap[gb169]? = some (.cells #[.int .i64 a0_0, .int .i64 a0_1, .string a0_2] 25 (0, 0))) ∧ Aside0 (w'.heap[gb170]? = some (.cells #[.int .i64 a1_0, .int .i64 a1_1, .string a1_2] 25 (0, 0))) ∧ Aside0 (w'.heap[gb171]? = some (.cells #[.int .i64 0, .int .i64 0, .string (⟨#[]⟩ : ByteArray)] 25 (0, 0))) ∧ Aside0 (Below w.heap.size w w'))
                        case atStart => exact ⟨(y194), (0), (by first | rfl | (simp; done) | (simp [*]; done)), H', ⟨Nat.le_refl _⟩, ⟨by (with_reducible repeat (first | apply Kd.R_alloc | apply Kd.R_drewN | apply Kd.R_drew)); exact HO_8.out⟩, ⟨by (with_reducible repeat (first | apply Kd.R_alloc | apply Kd.R_drewN | apply Kd.R_drew)); exact Kd.R_mono HO_12.out (fun _ hk => hk.2)⟩, ⟨by (with_reducible repeat (first | apply Kd.R_alloc | apply Kd.R_drewN | apply Kd.R_drew)); exact Kd.R_mono HO196.out (fun _ hk => hk.2)⟩, ⟨by (with_reducible repeat (first | apply Kd.R_alloc | apply Kd.R_drewN | apply Kd.R_drew)); exact HO_77.out⟩, ⟨by (with_reducible repeat (first | refine blk_drewN ?_ _ | refine blk_drew ?_ | refine blk_alloc ?_ _)); exact BK169.out⟩, ⟨by (with_reducible repeat (first | refine blk_drewN ?_ _ | refine blk_drew ?_ | refine blk_alloc ?_ _)); exact BK170.out⟩, ⟨by (with_reducible repeat (first | refine blk_drewN ?_ _ | refine blk_drew ?_ | refine blk_alloc ?_ _)); exact BK171.out⟩, ⟨by repeat (first | (with_reducible first | exact HB.out | apply below_alloc | apply pw_below_drewN | apply below_drew1 | refine below_set ?_ GE169.out | refine below_set ?_ GE170.out | refine below_set ?_ GE171.out) | exact HB.out)⟩⟩
                        case round =>
                         clear H'
                         try clear c1
                         try clear p1
                         try clear q1
                         try clear hx1
                         try clear c2
                         try clear p2
                         try clear c3
                         try clear c4
                         try clear c5
                         try clear c6
                         try clear p6
                         try clear q6
                         try clear hx6
                         try clear qi6
                         try clear hf6
                         try clear c7
                         try clear c8
                         try clear c10
                         try clear c11
                         try clear c14
                         try clear c17
                         try clear c18
                         try clear p19
                         try clear q19
                         try clear hx19
                         try clear c21
                         try clear c22
                         try clear c23
                         try clear c24
                         try clear c25
                         try clear c26
                         try clear c26b0
                         try clear c26b1
                         try clear c27
                         try clear c28
                         try clear c30
                         try clear c31
                         try clear c34
                         try clear c34b0
                         try clear c34b1
                         try clear c35
                         try clear c36
                         try clear c38
                         try clear c39
                         try clear c42
                         try clear c43
                         try clear c44
                         try clear c45
                         try clear c48
                         try clear c48b0
                         try clear c48b1
                         try clear c49
                         try clear c50
                         try clear c52
                         try clear c53
                         try clear c55
                         try clear c57
                         try clear c58
                         try clear c59
                         try clear c64
                         try clear c64b0
                         try clear c64b1
                         try clear p64
                         try clear c65
                         try clear c65b0
                         try clear c65b1
                         try clear c66
                         try clear c66b0
                         try clear c66b1
                         try clear p67
                         try clear q67
                         try clear hx67
                         try clear qi67
                         try clear hf67
                         try clear c69
                         try clear c70
                         try clear c73
                         try clear c84
                         try clear c84b0
                         try clear c85
                         try clear c85b0
                         try clear c86
                         try clear c86b0
                         try clear c88
                         try clear c88b0
                         try clear c88b1
                         try clear c89
                         try clear c89b0
                         try clear c89b1
                         try clear hcz12_0
                         try clear hcz12_1
                         try clear hcz12_2
                         try clear hcz15_0
                         try clear hcz15_1
                         try clear hcz15_2
                         try clear hcz19_0
                         try clear hcz19_1
                         try clear hcz19_2
                         try clear hcz24_0
                         try clear hcz24_1
                         try clear hcz24_2
                         try clear hcz29_0
                         try clear hcz29_1
                         try clear hcz29_2
                         try clear hcz32_0
                         try clear hcz32_1
                         try clear hcz32_2
                         try clear hcz37_0
                         try clear hcz37_1
                         try clear hcz37_2
                         try clear hcz40_0
                         try clear hcz40_1
                         try clear hcz40_2
                         try clear hcz46_0
                         try clear hcz46_1
                         try clear hcz46_2
                         try clear hcz51_0
                         try clear hcz51_1
                         try clear hcz51_2
                         try clear hcz54_0
                         try clear hcz54_1
                         try clear hcz54_2
                         try clear hcz56_0
                         try clear hcz56_1
                         try clear hcz56_2
                         try clear hcz60_0
                         try clear hcz60_1
                         try clear hcz60_2
                         try clear hcz71_0
                         try clear hcz71_1
                         try clear hcz71_2
                         try clear hcz74_0
                         try clear hcz74_1
                         try clear hcz74_2
                         try clear hfz12_0
                         try clear hfz12_1
                         try clear hfz12_2
                         try clear hfz15_0
                         try clear hfz15_1
                         try clear hfz15_2
                         try clear hfz19_0
                         try clear hfz19_1
                         try clear hfz19_2
                         try clear hfz24_0
                         try clear hfz24_1
                         try clear hfz24_2
                         try clear hfz29_0
                         try clear hfz29_1
                         try clear hfz29_2
                         try clear hfz32_0
                         try clear hfz32_1
                         try clear hfz32_2
                         try clear hfz37_0
                         try clear hfz37_1
                         try clear hfz37_2
                         try clear hfz40_0
                         try clear hfz40_1
                         try clear hfz40_2
                         try clear hfz46_0
                         try clear hfz46_1
                         try clear hfz46_2
                         try clear hfz51_0
                         try clear hfz51_1
                         try clear hfz51_2
                         try clear hfz54_0
                         try clear hfz54_1
                         try clear hfz54_2
                         try clear hfz56_0
                         try clear hfz56_1
                         try clear hfz56_2
                         try clear hfz60_0
                         try clear hfz60_1
                         try clear hfz60_2
                         try clear hfz71_0
                         try clear hfz71_1
                         try clear hfz71_2
                         try clear hfz74_0
                         try clear hfz74_1
                         try clear hfz74_2
                         try clear hx193_0
                         try clear hx67_0
                         try clear p193
                         try clear p2
                         try clear p6
                         try clear p64
                         try clear p67
                         try clear q193
                         try clear q6
                         try clear q67
                         obtain ⟨x15_7, x16_7, rfl, HA, HK7, HO_8, HO_12, HO_15, HO_77, BK169, BK170, BK171, HB⟩ := hrel
                         cases gk with
                         | zero => exact absurd HA.out (by simp [spec_Like.l1])
                         | succ k7 =>
                          have H := HA.out
                          clear HA
                          simp only [spec_Like.l1] at H
                          by_cases c92 : x16_7 ≤ (t174.length : Int)
                          ·rw [if_pos c92] at H
                           have c92b0 : decide (x16_7 ≤ (t174.length : Int)) = true := decide_eq_true c92
                           clear c92
                           by_cases c93 : (rd t186 x79_6) = (-1)
                           ·rw [if_pos c93] at H
                            have c93b0 : ((rd t186 x79_6) == (-1)) = true := beq_iff_eq.mpr c93
                            have c93b1 : ((rd t186 x79_6) != (-1)) = false := bne_eq_false_iff_eq.mpr c93
                            clear c93
                            by_cases c94 : 0 ≤ x16_7
                            ·rw [if_pos c94] at H
                             have c94b0 : decide (0 ≤ x16_7) = true := decide_eq_true c94
                             clear c94
                             by_cases c95 : x16_7 < (x12_6.length : Int)
                             ·rw [if_pos c95] at H
                              have c95b0 : decide (x16_7 < (x12_6.length : Int)) = true := decide_eq_true c95
                              clear c95
                              obtain ⟨bq96, hbq96⟩ : ∃ b_ : Bool, b_ = (rdOf false x12_6 x16_7) := ⟨_, rfl⟩
                              replace H : (if bq96 = true then (if x16_7 < (x15_7.length : Int) then (spec_Like.l1 k7 t174 x12_6 (rd t186 x79_6) (x15_7.set (x16_7 : Int).toNat true) (wrap64 (x16_7 + 1)) t186 (t186.length : Int) x79_6) else (none)) else (if x16_7 > 0 then (if 0 ≤ (wrap64 (x16_7 - 1)) then (if (wrap64 (x16_7 - 1)) < (x15_7.length : Int) then (if x16_7 < (x15_7.length : Int) then (spec_Like.l1 k7 t174 x12_6 (rd t186 x79_6) (x15_7.set (x16_7 : Int).toNat (rdOf false x15_7 (wrap64 (x16_7 - 1)))) (wrap64 (x16_7 + 1)) t186 (t186.length : Int) x79_6) else (none)) else (none)) else (none)) else (if x16_7 < (x15_7.length : Int) then (spec_Like.l1 k7 t174 x12_6 (rd t186 x79_6) (x15_7.set (x16_7 : Int).toNat false) (wrap64 (x16_7 + 1)) t186 (t186.length : Int) x79_6) else (none)))) = some (r1, r2, r3, r4) := by rw [← hbq96] at H; exact H
                              have Nbq96 := Aside0.mk hbq96
                              clear hbq96
                              by_cases c97 : bq96 = true
                              ·subst c97
                               have H1 : (if x16_7 < (x15_7.length : Int) then (spec_Like.l1 k7 t174 x12_6 (rd t186 x79_6) (x15_7.set (x16_7 : Int).toNat true) (wrap64 (x16_7 + 1)) t186 (t186.length : Int) x79_6) else (none)) = some (r1, r2, r3, r4) := by rw [if_pos rfl] at H; exact H
                               clear H
                               have H := H1
                               clear H1
                               by_cases c98 : x16_7 < (x15_7.length : Int)
                               ·rw [if_pos c98] at H
                                have c98b0 : decide (x16_7 < (x15_7.length : Int)) = true := decide_eq_true c98
                                clear c98
                                obtain ⟨y198, hy198⟩ : ∃ y_ : List Bool, y_ = (x15_7.set (x16_7 : Int).toNat true) := ⟨_, rfl⟩
                                replace H : (spec_Like.l1 k7 t174 x12_6 (rd t186 x79_6) y198 (wrap64 (x16_7 + 1)) t186 (t186.length : Int) x79_6) = some (r1, r2, r3, r4) := by first | (rw [hy198]; with_reducible exact H) | (have H2_ := (Option.bind_some _ _).symm.trans H; rw [hy198]; with_reducible exact H2_) | (have H2_ := (Option.bind_some _ _).symm.trans H; with_reducible exact H2_) | with_reducible exact H | (rw [hy198]; exact H) | exact H
                                have Ny198 := Aside0.mk hy198
                                clear hy198
                                have H' := Aside0.mk H
                                clear H
                                obtain ⟨Ao100, co100, eo100⟩ := Kd.R_slice HO_12.out
                                subst eo100
                                have p197 : 0 ≤ (x16_7 : Int) := of_decide_eq_true (by first | (with_reducible assumption) | assumption)
                                have q197 : x16_7 < (x12_6.length : Int) := of_decide_eq_true (by first | (with_reducible assumption) | assumption)
                                obtain ⟨ad197, e197, hx197_0⟩ := Kd.at_bool (Kd.R_reads' HO_12.out).2.2 x16_7 p197 q197
                                (try rw [← Nbq96.out] at hx197_0)
                                cases e197
                                replace p197 := eq_true p197
                                replace q197 := eq_true q197
                                have p99 : 0 ≤ (x16_7 : Int) := of_decide_eq_true (by first | (with_reducible assumption) | assumption)
                                have q99 : (x16_7 : Int) < ((x15_7.length : Int) : Int) := of_decide_eq_true (by first | (with_reducible assumption) | assumption)
                                obtain ⟨go99, co99, eo99, gb99, gl99, cl99, HG99⟩ := Kd.R_form HO_15.out (by omega)
                                (first | cases eo99 | (injection eo99 with ea_ en_ ec_; (first | subst ea_ | (injection ea_ with ea_; subst ea_)); subst ec_; clear en_))
                                have GB99 := Aside0.mk gb99
                                have GG99 := Aside0.mk HG99
                                clear gb99 gl99 HG99
                                obtain ⟨hx99_0, hf99_0⟩ := Kd.R_celln false HO_15.out (x16_7 : Int) p99 q99
                                replace p99 := eq_true p99
                                replace q99 := eq_true q99
                                have HP101 := Kd.R_putg HO_15.out (x16_7 : Int) true
                                go_wp2_with (first | ((with_reducible refine gate_store (t := 4) (p := 113) rfl ?_); refine store_event (t := 4) (p := 113) (v := ?vo_w102) (w1 := (wr.setCell ⟨go99, (x16_7 : Int).toNat, none⟩ (.bool true))) ?hg ?ho ?hn ?hr ?_; (case ho => rfl); (case hg => rfl); (case hn => rfl); (case hr => first | (go_simp; done) | (go_simp; rfl)); intro w102 hw; have hg : wr.grownBy w102 (some go99) := (by rw [hw]; exact HP101.2); have hp_ : Kd.R Kd.bool 4 w102 w.heap.size (fun k_ => some k_ ≠ (.slice (some ad197) x12_6.length co100 : Value).ownBlock) (.slice (some ⟨go99, 0, none⟩) x15_7.length co99) y198 := (by rw [hw, Ny198.out]; exact HP101.1); clear HP101; have n0_ := Aside0.mk (Kd.R_over' (v := (.slice (some ⟨go99, 0, none⟩) x15_7.length co99)) (by (with_reducible repeat (first | apply Kd.R_alloc | apply Kd.R_drewN | apply Kd.R_drew)); exact HO_8.out) (Kd.R_typed HO_15.out) (by decide) hg); have n1_ := Aside0.mk (Kd.R_after (v := (.slice (some ⟨go99, 0, none⟩) x15_7.length co99)) (v1 := (.slice (some ⟨go99, 0, none⟩) x15_7.length co99)) (ok := (fun _ => True)) (by (with_reducible repeat (first | apply Kd.R_alloc | apply Kd.R_drewN | apply Kd.R_drew)); exact Kd.R_mono HO_12.out (fun _ hk => ⟨trivial, hk⟩)) hg (.inl rfl)); have n2_ := Aside0.mk (hp_); have n3_ := Aside0.mk (Kd.R_over' (v := (.slice (some ⟨go99, 0, none⟩) x15_7.length co99)) (by (with_reducible repeat (first | apply Kd.R_alloc | apply Kd.R_drewN | apply Kd.R_drew)); exact HO_77.out) (Kd.R_typed HO_15.out) (by decide) hg); have n4_ := Aside0.mk (blk_grown (g := gb169) (o := .cells #[.int .i64 a0_0, .int .i64 a0_1, .string a0_2] 25 (0, 0)) (by (with_reducible repeat (first | refine blk_drewN ?_ _ | refine blk_drew ?_ | refine blk_alloc ?_ _)); exact BK169.out) hg (Kd.R_ne HO_15.out BK169.out (by decide))); have n5_ := Aside0.mk (blk_grown (g := gb170) (o := .cells #[.int .i64 a1_0, .int .i64 a1_1, .string a1_2] 25 (0, 0)) (by (with_reducible repeat (first | refine blk_drewN ?_ _ | refine blk_drew ?_ | refine blk_alloc ?_ _)); exact BK170.out) hg (Kd.R_ne HO_15.out BK170.out (by decide))); have n6_ := Aside0.mk (blk_grown (g := gb171) (o := .cells #[.int .i64 0, .int .i64 0, .string (⟨#[]⟩ : ByteArray)] 25 (0, 0)) (by (with_reducible repeat (first | refine blk_drewN ?_ _ | refine blk_drew ?_ | refine blk_alloc ?_ _)); exact BK171.out) hg (Kd.R_ne HO_15.out BK171.out (by decide))); have n7_ := Aside0.mk ((by rw [hw]; exact below_set (HB.out) GB99.out : Below w.heap.size w w102)); clear HO_8; clear HO_12; clear HO_15; clear HO_77; clear BK169; clear BK170; clear BK171; clear HB; have HO_8 := n0_; have HO_12 := n1_; have HO_15 := n2_; have HO_77 := n3_; have BK169 := n4_; have BK170 := n5_; have BK171 := n6_; have HB := n7_; clear n0_ n1_ n2_ n3_ n4_ n5_ n6_ n7_; clear hg hw hp_))
                                go_roundg k7
                                case measure => have := HJ2.out; have := HJ24.out; have := HJ32.out; have := HJ40.out; have := HJ46.out; have := HK6.out; have := HK7.out; omega
                                case rel => exact ⟨(y198), (wrap64 (x16_7 + 1)), (by first | rfl | (simp; done) | (simp [*]; done)), H', ⟨by have := HJ2.out; have := HJ24.out; have := HJ32.out; have := HJ40.out; have := HJ46.out; have := HK6.out; have := HK7.out; omega⟩, ⟨by (with_reducible repeat (first | apply Kd.R_alloc | apply Kd.R_drewN | apply Kd.R_drew)); exact HO_8.out⟩, ⟨by (with_reducible repeat (first | apply Kd.R_alloc | apply Kd.R_drewN | apply Kd.R_drew)); exact Kd.R_mono HO_12.out (fun _ hk => hk.2)⟩, ⟨by (with_reducible repeat (first | apply Kd.R_alloc | apply Kd.R_drewN | apply Kd.R_drew)); exact HO_15.out⟩, ⟨by (with_reducible repeat (first | apply Kd.R_alloc | apply Kd.R_drewN | apply Kd.R_drew)); exact HO_77.out⟩, ⟨by (with_reducible repeat (first | refine blk_drewN ?_ _ | refine blk_drew ?_ | refine blk_alloc ?_ _)); exact BK169.out⟩, ⟨by (with_reducible repeat (first | refine blk_drewN ?_ _ | refine blk_drew ?_ | refine blk_alloc ?_ _)); exact BK170.out⟩, ⟨by (with_reducible repeat (first | refine blk_drewN ?_ _ | refine blk_drew ?_ | refine blk_alloc ?_ _)); exact BK171.out⟩, ⟨by repeat (first | (with_reducible first | exact HB.out | apply below_alloc | apply pw_below_drewN | apply below_drew1 | refine below_set ?_ GE169.out | refine below_set ?_ GE170.out | refine below_set ?_ GE171.out) | exact HB.out)⟩⟩
                               ·rw [if_neg c98] at H
                                exact absurd H (by simp)
                              ·replace c97 := Bool.eq_false_iff.mpr c97
                               subst c97
                               have H1 : (if x16_7 > 0 then (if 0 ≤ (wrap64 (x16_7 - 1)) then (if (wrap64 (x16_7 - 1)) < (x15_7.length : Int) then (if x16_7 < (x15_7.length : Int) then (spec_Like.l1 k7 t174 x12_6 (rd t186 x79_6) (x15_7.set (x16_7 : Int).toNat (rdOf false x15_7 (wrap64 (x16_7 - 1)))) (wrap64 (x16_7 + 1)) t186 (t186.length : Int) x79_6) else (none)) else (none)) else (none)) else (if x16_7 < (x15_7.length : Int) then (spec_Like.l1 k7 t174 x12_6 (rd t186 x79_6) (x15_7.set (x16_7 : Int).toNat false) (wrap64 (x16_7 + 1)) t186 (t186.length : Int) x79_6) else (none))) = some (r1, r2, r3, r4) := by rw [if_neg (show ¬ (false = true) by decide)] at H; exact H
                               clear H
                               have H := H1
                               clear H1
                               by_cases c103 : x16_7 > 0
                               ·rw [if_pos c103] at H
                                have c103b0 : decide (0 < x16_7) = true := decide_eq_true c103
                                clear c103
                                obtain ⟨ji104, hji104⟩ : ∃ j_ : Int, (wrap64 (x16_7 - 1)) = j_ := ⟨_, rfl⟩
                                replace H : (if 0 ≤ (ji104) then (if (ji104) < (x15_7.length : Int) then (if x16_7 < (x15_7.length : Int) then (spec_Like.l1 k7 t174 x12_6 (rd t186 x79_6) (x15_7.set (x16_7 : Int).toNat (rdOf false x15_7 (ji104))) (wrap64 (x16_7 + 1)) t186 (t186.length : Int) x79_6) else (none)) else (none)) else (none)) = some (r1, r2, r3, r4) := by first | (rw [hji104] at H; exact H) | (simp only [hji104] at H ⊢; exact H)
                                have hji104w : (IntKind.i64.wrap (x16_7 - 1)) = ji104 := (i64_w _).trans hji104
                                by_cases c105 : 0 ≤ (ji104)
                                ·rw [if_pos c105] at H
                                 have c105b0 : decide (0 ≤ (ji104)) = true := decide_eq_true c105
                                 clear c105
                                 by_cases c106 : (ji104) < (x15_7.length : Int)
                                 ·rw [if_pos c106] at H
                                  have c106b0 : decide ((ji104) < (x15_7.length : Int)) = true := decide_eq_true c106
                                  clear c106
                                  by_cases c107 : x16_7 < (x15_7.length : Int)
                                  ·rw [if_pos c107] at H
                                   have c107b0 : decide (x16_7 < (x15_7.length : Int)) = true := decide_eq_true c107
                                   clear c107
                                   obtain ⟨y200, hy200⟩ : ∃ y_ : List Bool, y_ = (x15_7.set (x16_7 : Int).toNat (rdOf false x15_7 (ji104))) := ⟨_, rfl⟩
                                   replace H : (spec_Like.l1 k7 t174 x12_6 (rd t186 x79_6) y200 (wrap64 (x16_7 + 1)) t186 (t186.length : Int) x79_6) = some (r1, r2, r3, r4) := by first | (rw [hy200]; with_reducible exact H) | (have H2_ := (Option.bind_some _ _).symm.trans H; rw [hy200]; with_reducible exact H2_) | (have H2_ := (Option.bind_some _ _).symm.trans H; with_reducible exact H2_) | with_reducible exact H | (rw [hy200]; exact H) | exact H
                                   have Ny200 := Aside0.mk hy200
                                   clear hy200
                                   have H' := Aside0.mk H
                                   clear H
                                   obtain ⟨Ao109, co109, eo109⟩ := Kd.R_slice HO_12.out
                                   subst eo109
                                   have p197 : 0 ≤ (x16_7 : Int) := of_decide_eq_true (by first | (with_reducible assumption) | assumption)
                                   have q197 : x16_7 < (x12_6.length : Int) := of_decide_eq_true (by first | (with_reducible assumption) | assumption)
                                   obtain ⟨ad197, e197, hx197_0⟩ := Kd.at_bool (Kd.R_reads' HO_12.out).2.2 x16_7 p197 q197
                                   (try rw [← Nbq96.out] at hx197_0)
                                   cases e197
                                   replace p197 := eq_true p197
                                   replace q197 := eq_true q197
                                   obtain ⟨Ao110, co110, eo110⟩ := Kd.R_slice HO_15.out
                                   subst eo110
                                   have p199 : 0 ≤ ((ji104) : Int) := of_decide_eq_true (by first | (with_reducible assumption) | assumption)
                                   have q199 : (ji104) < (x15_7.length : Int) := of_decide_eq_true (by first | (with_reducible assumption) | assumption)
                                   obtain ⟨ad199, e199, hx199_0⟩ := Kd.at_bool (Kd.R_reads' HO_15.out).2.2 (ji104) p199 q199
                                   (try rw [← Nbq96.out] at hx199_0)
                                   cases e199
                                   replace p199 := eq_true p199
                                   replace q199 := eq_true q199
                                   have p108 : 0 ≤ (x16_7 : Int) := of_decide_eq_true (by first | (with_reducible assumption) | assumption)
                                   have q108 : (x16_7 : Int) < ((x15_7.length : Int) : Int) := of_decide_eq_true (by first | (with_reducible assumption) | assumption)
                                   obtain ⟨go108, co108, eo108, gb108, gl108, cl108, HG108⟩ := Kd.R_form HO_15.out (by omega)
                                   (first | cases eo108 | (injection eo108 with ea_ en_ ec_; (first | subst ea_ | (injection ea_ with ea_; subst ea_)); subst ec_; clear en_))
                                   have GB108 := Aside0.mk gb108
                                   have GG108 := Aside0.mk HG108
                                   clear gb108 gl108 HG108
                                   (first | simp only [add_plain] at hx199_0 | skip)
                                   obtain ⟨hx108_0, hf108_0⟩ := Kd.R_celln false HO_15.out (x16_7 : Int) p108 q108
                                   replace p108 := eq_true p108
                                   replace q108 := eq_true q108
                                   have HP111 := Kd.R_putg HO_15.out (x16_7 : Int) (rdOf false x15_7 (ji104))
                                   go_wp2_with (first | ((with_reducible refine gate_store (t := 4) (p := 113) rfl ?_); refine store_event (t := 4) (p := 113) (v := ?vo_w112) (w1 := (wr.setCell ⟨go108, (x16_7 : Int).toNat, none⟩ (.bool (rdOf false x15_7 (ji104))))) ?hg ?ho ?hn ?hr ?_; (case ho => rfl); (case hg => rfl); (case hn => rfl); (case hr => first | (go_simp; done) | (go_simp; rfl)); intro w112 hw; have hg : wr.grownBy w112 (some go108) := (by rw [hw]; exact HP111.2); have hp_ : Kd.R Kd.bool 4 w112 w.heap.size (fun k_ => some k_ ≠ (.slice (some ad197) x12_6.length co109 : Value).ownBlock) (.slice (some ⟨go108, 0, none⟩) x15_7.length co110) y200 := (by rw [hw, Ny200.out]; exact HP111.1); clear HP111; have n0_ := Aside0.mk (Kd.R_over' (v := (.slice (some ⟨go108, 0, none⟩) x15_7.length co110)) (by (with_reducible repeat (first | apply Kd.R_alloc | apply Kd.R_drewN | apply Kd.R_drew)); exact HO_8.out) (Kd.R_typed HO_15.out) (by decide) hg); have n1_ := Aside0.mk (Kd.R_after (v := (.slice (some ⟨go108, 0, none⟩) x15_7.length co110)) (v1 := (.slice (some ⟨go108, 0, none⟩) x15_7.length co110)) (ok := (fun _ => True)) (by (with_reducible repeat (first | apply Kd.R_alloc | apply Kd.R_drewN | apply Kd.R_drew)); exact Kd.R_mono HO_12.out (fun _ hk => ⟨trivial, hk⟩)) hg (.inl rfl)); have n2_ := Aside0.mk (hp_); have n3_ := Aside0.mk (Kd.R_over' (v := (.slice (some ⟨go108, 0, none⟩) x15_7.length co110)) (by (with_reducible repeat (first | apply Kd.R_alloc | apply Kd.R_drewN | apply Kd.R_drew)); exact HO_77.out) (Kd.R_typed HO_15.out) (by decide) hg); have n4_ := Aside0.mk (blk_grown (g := gb169) (o := .cells #[.int .i64 a0_0, .int .i64 a0_1, .string a0_2] 25 (0, 0)) (by (with_reducible repeat (first | refine blk_drewN ?_ _ | refine blk_drew ?_ | refine blk_alloc ?_ _)); exact BK169.out) hg (Kd.R_ne HO_15.out BK169.out (by decide))); have n5_ := Aside0.mk (blk_grown (g := gb170) (o := .cells #[.int .i64 a1_0, .int .i64 a1_1, .string a1_2] 25 (0, 0)) (by (with_reducible repeat (first | refine blk_drewN ?_ _ | refine blk_drew ?_ | refine blk_alloc ?_ _)); exact BK170.out) hg (Kd.R_ne HO_15.out BK170.out (by decide))); have n6_ := Aside0.mk (blk_grown (g := gb171) (o := .cells #[.int .i64 0, .int .i64 0, .string (⟨#[]⟩ : ByteArray)] 25 (0, 0)) (by (with_reducible repeat (first | refine blk_drewN ?_ _ | refine blk_drew ?_ | refine blk_alloc ?_ _)); exact BK171.out) hg (Kd.R_ne HO_15.out BK171.out (by decide))); have n7_ := Aside0.mk ((by rw [hw]; exact below_set (HB.out) GB108.out : Below w.heap.size w w112)); clear HO_8; clear HO_12; clear HO_15; clear HO_77; clear BK169; clear BK170; clear BK171; clear HB; have HO_8 := n0_; have HO_12 := n1_; have HO_15 := n2_; have HO_77 := n3_; have BK169 := n4_; have BK170 := n5_; have BK171 := n6_; have HB := n7_; clear n0_ n1_ n2_ n3_ n4_ n5_ n6_ n7_; clear hg hw hp_))
                                   go_roundg k7
                                   case measure => have := HJ2.out; have := HJ24.out; have := HJ32.out; have := HJ40.out; have := HJ46.out; have := HK6.out; have := HK7.out; omega
                                   case rel => exact ⟨(y200), (wrap64 (x16_7 + 1)), (by first | rfl | (simp; done) | (simp [*]; done)), H', ⟨by have := HJ2.out; have := HJ24.out; have := HJ32.out; have := HJ40.out; have := HJ46.out; have := HK6.out; have := HK7.out; omega⟩, ⟨by (with_reducible repeat (first | apply Kd.R_alloc | apply Kd.R_drewN | apply Kd.R_drew)); exact HO_8.out⟩, ⟨by (with_reducible repeat (first | apply Kd.R_alloc | apply Kd.R_drewN | apply Kd.R_drew)); exact Kd.R_mono HO_12.out (fun _ hk => hk.2)⟩, ⟨by (with_reducible repeat (first | apply Kd.R_alloc | apply Kd.R_drewN | apply Kd.R_drew)); exact HO_15.out⟩, ⟨by (with_reducible repeat (first | apply Kd.R_alloc | apply Kd.R_drewN | apply Kd.R_drew)); exact HO_77.out⟩, ⟨by (with_reducible repeat (first | refine blk_drewN ?_ _ | refine blk_drew ?_ | refine blk_alloc ?_ _)); exact BK169.out⟩, ⟨by (with_reducible repeat (first | refine blk_drewN ?_ _ | refine blk_drew ?_ | refine blk_alloc ?_ _)); exact BK170.out⟩, ⟨by (with_reducible repeat (first | refine blk_drewN ?_ _ | refine blk_drew ?_ | refine blk_alloc ?_ _)); exact BK171.out⟩, ⟨by repeat (first | (with_reducible first | exact HB.out | apply below_alloc | apply pw_below_drewN | apply below_drew1 | refine below_set ?_ GE169.out | refine below_set ?_ GE170.out | refine below_set ?_ GE171.out) | exact HB.out)⟩⟩
                                  ·rw [if_neg c107] at H
                                   exact absurd H (by simp)
                                 ·rw [if_neg c106] at H
                                  exact absurd H (by simp)
                                ·rw [if_neg c105] at H
                                 exact absurd H (by simp)
                               ·rw [if_neg c103] at H
                                have c103b0 : decide (0 < x16_7) = false := decide_eq_false c103
                                clear c103
                                by_cases c113 : x16_7 < (x15_7.length : Int)
                                ·rw [if_pos c113] at H
                                 have c113b0 : decide (x16_7 < (x15_7.length : Int)) = true := decide_eq_true c113
                                 clear c113
                                 obtain ⟨y201, hy201⟩ : ∃ y_ : List Bool, y_ = (x15_7.set (x16_7 : Int).toNat false) := ⟨_, rfl⟩
                                 replace H : (spec_Like.l1 k7 t174 x12_6 (rd t186 x79_6) y201 (wrap64 (x16_7 + 1)) t186 (t186.length : Int) x79_6) = some (r1, r2, r3, r4) := by first | (rw [hy201]; with_reducible exact H) | (have H2_ := (Option.bind_some _ _).symm.trans H; rw [hy201]; with_reducible exact H2_) | (have H2_ := (Option.bind_some _ _).symm.trans H; with_reducible exact H2_) | with_reducible exact H | (rw [hy201]; exact H) | exact H
                                 have Ny201 := Aside0.mk hy201
                                 clear hy201
                                 have H' := Aside0.mk H
                                 clear H
                                 obtain ⟨Ao115, co115, eo115⟩ := Kd.R_slice HO_12.out
                                 subst eo115
                                 have p197 : 0 ≤ (x16_7 : Int) := of_decide_eq_true (by first | (with_reducible assumption) | assumption)
                                 have q197 : x16_7 < (x12_6.length : Int) := of_decide_eq_true (by first | (with_reducible assumption) | assumption)
                                 obtain ⟨ad197, e197, hx197_0⟩ := Kd.at_bool (Kd.R_reads' HO_12.out).2.2 x16_7 p197 q197
                                 (try rw [← Nbq96.out] at hx197_0)
                                 cases e197
                                 replace p197 := eq_true p197
                                 replace q197 := eq_true q197
                                 have p114 : 0 ≤ (x16_7 : Int) := of_decide_eq_true (by first | (with_reducible assumption) | assumption)
                                 have q114 : (x16_7 : Int) < ((x15_7.length : Int) : Int) := of_decide_eq_true (by first | (with_reducible assumption) | assumption)
                                 obtain ⟨go114, co114, eo114, gb114, gl114, cl114, HG114⟩ := Kd.R_form HO_15.out (by omega)
                                 (first | cases eo114 | (injection eo114 with ea_ en_ ec_; (first | subst ea_ | (injection ea_ with ea_; subst ea_)); subst ec_; clear en_))
                                 have GB114 := Aside0.mk gb114
                                 have GG114 := Aside0.mk HG114
                                 clear gb114 gl114 HG114
                                 obtain ⟨hx114_0, hf114_0⟩ := Kd.R_celln false HO_15.out (x16_7 : Int) p114 q114
                                 replace p114 := eq_true p114
                                 replace q114 := eq_true q114
                                 have HP116 := Kd.R_putg HO_15.out (x16_7 : Int) false
                                 go_wp2_with (first | ((with_reducible refine gate_store (t := 4) (p := 113) rfl ?_); refine store_event (t := 4) (p := 113) (v := ?vo_w117) (w1 := (wr.setCell ⟨go114, (x16_7 : Int).toNat, none⟩ (.bool false))) ?hg ?ho ?hn ?hr ?_; (case ho => rfl); (case hg => rfl); (case hn => rfl); (case hr => first | (go_simp; done) | (go_simp; rfl)); intro w117 hw; have hg : wr.grownBy w117 (some go114) := (by rw [hw]; exact HP116.2); have hp_ : Kd.R Kd.bool 4 w117 w.heap.size (fun k_ => some k_ ≠ (.slice (some ad197) x12_6.length co115 : Value).ownBlock) (.slice (some ⟨go114, 0, none⟩) x15_7.length co114) y201 := (by rw [hw, Ny201.out]; exact HP116.1); clear HP116; have n0_ := Aside0.mk (Kd.R_over' (v := (.slice (some ⟨go114, 0, none⟩) x15_7.length co114)) (by (with_reducible repeat (first | apply Kd.R_alloc | apply Kd.R_drewN | apply Kd.R_drew)); exact HO_8.out) (Kd.R_typed HO_15.out) (by decide) hg); have n1_ := Aside0.mk (Kd.R_after (v := (.slice (some ⟨go114, 0, none⟩) x15_7.length co114)) (v1 := (.slice (some ⟨go114, 0, none⟩) x15_7.length co114)) (ok := (fun _ => True)) (by (with_reducible repeat (first | apply Kd.R_alloc | apply Kd.R_drewN | apply Kd.R_drew)); exact Kd.R_mono HO_12.out (fun _ hk => ⟨trivial, hk⟩)) hg (.inl rfl)); have n2_ := Aside0.mk (hp_); have n3_ := Aside0.mk (Kd.R_over' (v := (.slice (some ⟨go114, 0, none⟩) x15_7.length co114)) (by (with_reducible repeat (first | apply Kd.R_alloc | apply Kd.R_drewN | apply Kd.R_drew)); exact HO_77.out) (Kd.R_typed HO_15.out) (by decide) hg); have n4_ := Aside0.mk (blk_grown (g := gb169) (o := .cells #[.int .i64 a0_0, .int .i64 a0_1, .string a0_2] 25 (0, 0)) (by (with_reducible repeat (first | refine blk_drewN ?_ _ | refine blk_drew ?_ | refine blk_alloc ?_ _)); exact BK169.out) hg (Kd.R_ne HO_15.out BK169.out (by decide))); have n5_ := Aside0.mk (blk_grown (g := gb170) (o := .cells #[.int .i64 a1_0, .int .i64 a1_1, .string a1_2] 25 (0, 0)) (by (with_reducible repeat (first | refine blk_drewN ?_ _ | refine blk_drew ?_ | refine blk_alloc ?_ _)); exact BK170.out) hg (Kd.R_ne HO_15.out BK170.out (by decide))); have n6_ := Aside0.mk (blk_grown (g := gb171) (o := .cells #[.int .i64 0, .int .i64 0, .string (⟨#[]⟩ : ByteArray)] 25 (0, 0)) (by (with_reducible repeat (first | refine blk_drewN ?_ _ | refine blk_drew ?_ | refine blk_alloc ?_ _)); exact BK171.out) hg (Kd.R_ne HO_15.out BK171.out (by decide))); have n7_ := Aside0.mk ((by rw [hw]; exact below_set (HB.out) GB114.out : Below w.heap.size w w117)); clear HO_8; clear HO_12; clear HO_15; clear HO_77; clear BK169; clear BK170; clear BK171; clear HB; have HO_8 := n0_; have HO_12 := n1_; have HO_15 := n2_; have HO_77 := n3_; have BK169 := n4_; have BK170 := n5_; have BK171 := n6_; have HB := n7_; clear n0_ n1_ n2_ n3_ n4_ n5_ n6_ n7_; clear hg hw hp_))
                                 go_roundg k7
                                 case measure => have := HJ2.out; have := HJ24.out; have := HJ32.out; have := HJ40.out; have := HJ46.out; have := HK6.out; have := HK7.out; omega
                                 case rel => exact ⟨(y201), (wrap64 (x16_7 + 1)), (by first | rfl | (simp; done) | (simp [*]; done)), H', ⟨by have := HJ2.out; have := HJ24.out; have := HJ32.out; have := HJ40.out; have := HJ46.out; have := HK6.out; have := HK7.out; omega⟩, ⟨by (with_reducible repeat (first | apply Kd.R_alloc | apply Kd.R_drewN | apply Kd.R_drew)); exact HO_8.out⟩, ⟨by (with_reducible repeat (first | apply Kd.R_alloc | apply Kd.R_drewN | apply Kd.R_drew)); exact Kd.R_mono HO_12.out (fun _ hk => hk.2)⟩, ⟨by (with_reducible repeat (first | apply Kd.R_alloc | apply Kd.R_drewN | apply Kd.R_drew)); exact HO_15.out⟩, ⟨by (with_reducible repeat (first | apply Kd.R_alloc | apply Kd.R_drewN | apply Kd.R_drew)); exact HO_77.out⟩, ⟨by (with_reducible repeat (first | refine blk_drewN ?_ _ | refine blk_drew ?_ | refine blk_alloc ?_ _)); exact BK169.out⟩, ⟨by (with_reducible repeat (first | refine blk_drewN ?_ _ | refine blk_drew ?_ | refine blk_alloc ?_ _)); exact BK170.out⟩, ⟨by (with_reducible repeat (first | refine blk_drewN ?_ _ | refine blk_drew ?_ | refine blk_alloc ?_ _)); exact BK171.out⟩, ⟨by repeat (first | (with_reducible first | exact HB.out | apply below_alloc | apply pw_below_drewN | apply below_drew1 | refine below_set ?_ GE169.out | refine below_set ?_ GE170.out | refine below_set ?_ GE171.out) | exact HB.out)⟩⟩
                                ·rw [if_neg c113] at H
                                 exact absurd H (by simp)
                             ·rw [if_neg c95] at H
                              exact absurd H (by simp)
                            ·rw [if_neg c94] at H
                             exact absurd H (by simp)
                           ·rw [if_neg c93] at H
                            have c93b0 : ((rd t186 x79_6) == (-1)) = false := beq_eq_false_iff_ne.mpr c93
                            have c93b1 : ((rd t186 x79_6) != (-1)) = true := bne_iff_ne.mpr c93
                            by_cases c118 : x16_7 > 0
                            ·rw [if_pos c118] at H
                             have c118b0 : decide (0 < x16_7) = true := decide_eq_true c118
                             clear c118
                             by_cases c119 : (rd t186 x79_6) = (-2)
                             ·rw [if_pos c119] at H
                              have c119b0 : ((rd t186 x79_6) == (-2)) = true := beq_iff_eq.mpr c119
                              have c119b1 : ((rd t186 x79_6) != (-2)) = false := bne_eq_false_iff_eq.mpr c119
                              clear c119
                              obtain ⟨ji120, hji120⟩ : ∃ j_ : Int, (wrap64 (x16_7 - 1)) = j_ := ⟨_, rfl⟩
                              replace H : (if 0 ≤ (ji120) then (if (ji120) < (x12_6.length : Int) then (if 0 ≤ x16_7 then (if x16_7 < (x15_7.length : Int) then (spec_Like.l1 k7 t174 x12_6 (rd t186 x79_6) (x15_7.set (x16_7 : Int).toNat (rdOf false x12_6 (ji120))) (wrap64 (x16_7 + 1)) t186 (t186.length : Int) x79_6) else (none)) else (none)) else (none)) else (none)) = some (r1, r2, r3, r4) := by first | (rw [hji120] at H; exact H) | (simp only [hji120] at H ⊢; exact H)
                              try clear hji104w
                              have hji120w : (IntKind.i64.wrap (x16_7 - 1)) = ji120 := (i64_w _).trans hji120
                              by_cases c121 : 0 ≤ (ji120)
                              ·rw [if_pos c121] at H
                               have c121b0 : decide (0 ≤ (ji120)) = true := decide_eq_true c121
                               clear c121
                               by_cases c122 : (ji120) < (x12_6.length : Int)
                               ·rw [if_pos c122] at H
                                have c122b0 : decide ((ji120) < (x12_6.length : Int)) = true := decide_eq_true c122
                                clear c122
                                by_cases c123 : 0 ≤ x16_7
                                ·rw [if_pos c123] at H
                                 have c123b0 : decide (0 ≤ x16_7) = true := decide_eq_true c123
                                 clear c123
                                 by_cases c124 : x16_7 < (x15_7.length : Int)
                                 ·rw [if_pos c124] at H
                                  have c124b0 : decide (x16_7 < (x15_7.length : Int)) = true := decide_eq_true c124
                                  clear c124
                                  obtain ⟨y203, hy203⟩ : ∃ y_ : List Bool, y_ = (x15_7.set (x16_7 : Int).toNat (rdOf false x12_6 (ji120))) := ⟨_, rfl⟩
                                  replace H : (spec_Like.l1 k7 t174 x12_6 (rd t186 x79_6) y203 (wrap64 (x16_7 + 1)) t186 (t186.length : Int) x79_6) = some (r1, r2, r3, r4) := by first | (rw [hy203]; with_reducible exact H) | (have H2_ := (Option.bind_some _ _).symm.trans H; rw [hy203]; with_reducible exact H2_) | (have H2_ := (Option.bind_some _ _).symm.trans H; with_reducible exact H2_) | with_reducible exact H | (rw [hy203]; exact H) | exact H
                                  have Ny203 := Aside0.mk hy203
                                  clear hy203
                                  have H' := Aside0.mk H
                                  clear H
                                  obtain ⟨Ao126, co126, eo126⟩ := Kd.R_slice HO_12.out
                                  subst eo126
                                  have p202 : 0 ≤ ((ji120) : Int) := of_decide_eq_true (by first | (with_reducible assumption) | assumption)
                                  have q202 : (ji120) < (x12_6.length : Int) := of_decide_eq_true (by first | (with_reducible assumption) | assumption)
                                  obtain ⟨ad202, e202, hx202_0⟩ := Kd.at_bool (Kd.R_reads' HO_12.out).2.2 (ji120) p202 q202
                                  cases e202
                                  replace p202 := eq_true p202
                                  replace q202 := eq_true q202
                                  have p125 : 0 ≤ (x16_7 : Int) := of_decide_eq_true (by first | (with_reducible assumption) | assumption)
                                  have q125 : (x16_7 : Int) < ((x15_7.length : Int) : Int) := of_decide_eq_true (by first | (with_reducible assumption) | assumption)
                                  obtain ⟨go125, co125, eo125, gb125, gl125, cl125, HG125⟩ := Kd.R_form HO_15.out (by omega)
                                  (first | cases eo125 | (injection eo125 with ea_ en_ ec_; (first | subst ea_ | (injection ea_ with ea_; subst ea_)); subst ec_; clear en_))
                                  have GB125 := Aside0.mk gb125
                                  have GG125 := Aside0.mk HG125
                                  clear gb125 gl125 HG125
                                  obtain ⟨hx125_0, hf125_0⟩ := Kd.R_celln false HO_15.out (x16_7 : Int) p125 q125
                                  replace p125 := eq_true p125
                                  replace q125 := eq_true q125
                                  have HP127 := Kd.R_putg HO_15.out (x16_7 : Int) (rdOf false x12_6 (ji120))
                                  go_wp2_with (first | ((with_reducible refine gate_store (t := 4) (p := 137) rfl ?_); refine store_event (t := 4) (p := 137) (v := ?vo_w128) (w1 := (wr.setCell ⟨go125, (x16_7 : Int).toNat, none⟩ (.bool (rdOf false x12_6 (ji120))))) ?hg ?ho ?hn ?hr ?_; (case ho => rfl); (case hg => rfl); (case hn => rfl); (case hr => first | (go_simp; done) | (go_simp; rfl)); intro w128 hw; have hg : wr.grownBy w128 (some go125) := (by rw [hw]; exact HP127.2); have hp_ : Kd.R Kd.bool 4 w128 w.heap.size (fun k_ => some k_ ≠ (.slice (some ad202) x12_6.length co126 : Value).ownBlock) (.slice (some ⟨go125, 0, none⟩) x15_7.length co125) y203 := (by rw [hw, Ny203.out]; exact HP127.1); clear HP127; have n0_ := Aside0.mk (Kd.R_over' (v := (.slice (some ⟨go125, 0, none⟩) x15_7.length co125)) (by (with_reducible repeat (first | apply Kd.R_alloc | apply Kd.R_drewN | apply Kd.R_drew)); exact HO_8.out) (Kd.R_typed HO_15.out) (by decide) hg); have n1_ := Aside0.mk (Kd.R_after (v := (.slice (some ⟨go125, 0, none⟩) x15_7.length co125)) (v1 := (.slice (some ⟨go125, 0, none⟩) x15_7.length co125)) (ok := (fun _ => True)) (by (with_reducible repeat (first | apply Kd.R_alloc | apply Kd.R_drewN | apply Kd.R_drew)); exact Kd.R_mono HO_12.out (fun _ hk => ⟨trivial, hk⟩)) hg (.inl rfl)); have n2_ := Aside0.mk (hp_); have n3_ := Aside0.mk (Kd.R_over' (v := (.slice (some ⟨go125, 0, none⟩) x15_7.length co125)) (by (with_reducible repeat (first | apply Kd.R_alloc | apply Kd.R_drewN | apply Kd.R_drew)); exact HO_77.out) (Kd.R_typed HO_15.out) (by decide) hg); have n4_ := Aside0.mk (blk_grown (g := gb169) (o := .cells #[.int .i64 a0_0, .int .i64 a0_1, .string a0_2] 25 (0, 0)) (by (with_reducible repeat (first | refine blk_drewN ?_ _ | refine blk_drew ?_ | refine blk_alloc ?_ _)); exact BK169.out) hg (Kd.R_ne HO_15.out BK169.out (by decide))); have n5_ := Aside0.mk (blk_grown (g := gb170) (o := .cells #[.int .i64 a1_0, .int .i64 a1_1, .string a1_2] 25 (0, 0)) (by (with_reducible repeat (first | refine blk_drewN ?_ _ | refine blk_drew ?_ | refine blk_alloc ?_ _)); exact BK170.out) hg (Kd.R_ne HO_15.out BK170.out (by decide))); have n6_ := Aside0.mk (blk_grown (g := gb171) (o := .cells #[.int .i64 0, .int .i64 0, .string (⟨#[]⟩ : ByteArray)] 25 (0, 0)) (by (with_reducible repeat (first | refine blk_drewN ?_ _ | refine blk_drew ?_ | refine blk_alloc ?_ _)); exact BK171.out) hg (Kd.R_ne HO_15.out BK171.out (by decide))); have n7_ := Aside0.mk ((by rw [hw]; exact below_set (HB.out) GB125.out : Below w.heap.size w w128)); clear HO_8; clear HO_12; clear HO_15; clear HO_77; clear BK169; clear BK170; clear BK171; clear HB; have HO_8 := n0_; have HO_12 := n1_; have HO_15 := n2_; have HO_77 := n3_; have BK169 := n4_; have BK170 := n5_; have BK171 := n6_; have HB := n7_; clear n0_ n1_ n2_ n3_ n4_ n5_ n6_ n7_; clear hg hw hp_))
                                  go_roundg k7
                                  case measure => have := HJ2.out; have := HJ24.out; have := HJ32.out; have := HJ40.out; have := HJ46.out; have := HK6.out; have := HK7.out; omega
                                  case rel => exact ⟨(y203), (wrap64 (x16_7 + 1)), (by first | rfl | (simp; done) | (simp [*]; done)), H', ⟨by have := HJ2.out; have := HJ24.out; have := HJ32.out; have := HJ40.out; have := HJ46.out; have := HK6.out; have := HK7.out; omega⟩, ⟨by (with_reducible repeat (first | apply Kd.R_alloc | apply Kd.R_drewN | apply Kd.R_drew)); exact HO_8.out⟩, ⟨by (with_reducible repeat (first | apply Kd.R_alloc | apply Kd.R_drewN | apply Kd.R_drew)); exact Kd.R_mono HO_12.out (fun _ hk => hk.2)⟩, ⟨by (with_reducible repeat (first | apply Kd.R_alloc | apply Kd.R_drewN | apply Kd.R_drew)); exact HO_15.out⟩, ⟨by (with_reducible repeat (first | apply Kd.R_alloc | apply Kd.R_drewN | apply Kd.R_drew)); exact HO_77.out⟩, ⟨by (with_reducible repeat (first | refine blk_drewN ?_ _ | refine blk_drew ?_ | refine blk_alloc ?_ _)); exact BK169.out⟩, ⟨by (with_reducible repeat (first | refine blk_drewN ?_ _ | refine blk_drew ?_ | refine blk_alloc ?_ _)); exact BK170.out⟩, ⟨by (with_reducible repeat (first | refine blk_drewN ?_ _ | refine blk_drew ?_ | refine blk_alloc ?_ _)); exact BK171.out⟩, ⟨by repeat (first | (with_reducible first | exact HB.out | apply below_alloc | apply pw_below_drewN | apply below_drew1 | refine below_set ?_ GE169.out | refine below_set ?_ GE170.out | refine below_set ?_ GE171.out) | exact HB.out)⟩⟩
                                 ·rw [if_neg c124] at H
                                  exact absurd H (by simp)
                                ·rw [if_neg c123] at H
                                 exact absurd H (by simp)
                               ·rw [if_neg c122] at H
                                exact absurd H (by simp)
                              ·rw [if_neg c121] at H
                               exact absurd H (by simp)
                             ·rw [if_neg c119] at H
                              have c119b0 : ((rd t186 x79_6) == (-2)) = false := beq_eq_false_iff_ne.mpr c119
                              have c119b1 : ((rd t186 x79_6) != (-2)) = true := bne_iff_ne.mpr c119
                              obtain ⟨ji129, hji129⟩ : ∃ j_ : Int, (wrap64 (x16_7 - 1)) = j_ := ⟨_, rfl⟩
                              replace H : (if 0 ≤ (ji129) then (if (ji129) < (t174.length : Int) then (if (rd t186 x79_6) = (rd t174 (ji129)) then (if (ji129) < (x12_6.length : Int) then (if 0 ≤ x16_7 then (if x16_7 < (x15_7.length : Int) then (spec_Like.l1 k7 t174 x12_6 (rd t186 x79_6) (x15_7.set (x16_7 : Int).toNat (rdOf false x12_6 (ji129))) (wrap64 (x16_7 + 1)) t186 (t186.length : Int) x79_6) else (none)) else (none)) else (none)) else (spec_Like.l1 k7 t174 x12_6 (rd t186 x79_6) x15_7 (wrap64 (x16_7 + 1)) t186 (t186.length : Int) x79_6)) else (none)) else (none)) = some (r1, r2, r3, r4) := by first | (rw [hji129] at H; exact H) | (simp only [hji129] at H ⊢; exact H)
                              try clear hji104w
                              try clear hji120w
                              have hji129w : (IntKind.i64.wrap (x16_7 - 1)) = ji129 := (i64_w _).trans hji129
                              by_cases c130 : 0 ≤ (ji129)
                              ·rw [if_pos c130] at H
                               have c130b0 : decide (0 ≤ (ji129)) = true := decide_eq_true c130
                               clear c130
                               by_cases c131 : (ji129) < (t174.length : Int)
                               ·rw [if_pos c131] at H
                                have c131b0 : decide ((ji129) < (t174.length : Int)) = true := decide_eq_true c131
                                clear c131
                                by_cases c132 : (rd t186 x79_6) = (rd t174 (ji129))
                                ·rw [if_pos c132] at H
                                 have c132b0 : ((rd t186 x79_6) == (rd t174 (ji129))) = true := beq_iff_eq.mpr c132
                                 have c132b1 : ((rd t186 x79_6) != (rd t174 (ji129))) = false := bne_eq_false_iff_eq.mpr c132
                                 clear c132
                                 by_cases c133 : (ji129) < (x12_6.length : Int)
                                 ·rw [if_pos c133] at H
                                  have c133b0 : decide ((ji129) < (x12_6.length : Int)) = true := decide_eq_true c133
                                  clear c133
                                  by_cases c134 : 0 ≤ x16_7
                                  ·rw [if_pos c134] at H
                                   have c134b0 : decide (0 ≤ x16_7) = true := decide_eq_true c134
                                   clear c134
                                   by_cases c135 : x16_7 < (x15_7.length : Int)
                                   ·rw [if_pos c135] at H
                                    have c135b0 : decide (x16_7 < (x15_7.length : Int)) = true := decide_eq_true c135
                                    clear c135
                                    obtain ⟨y206, hy206⟩ : ∃ y_ : List Bool, y_ = (x15_7.set (x16_7 : Int).toNat (rdOf false x12_6 (ji129))) := ⟨_, rfl⟩
                                    replace H : (spec_Like.l1 k7 t174 x12_6 (rd t186 x79_6) y206 (wrap64 (x16_7 + 1)) t186 (t186.length : Int) x79_6) = some (r1, r2, r3, r4) := by first | (rw [hy206]; with_reducible exact H) | (have H2_ := (Option.bind_some _ _).symm.trans H; rw [hy206]; with_reducible exact H2_) | (have H2_ := (Option.bind_some _ _).symm.trans H; with_reducible exact H2_) | with_reducible exact H | (rw [hy206]; exact H) | exact H
                                    have Ny206 := Aside0.mk hy206
                                    clear hy206
                                    have H' := Aside0.mk H
                                    clear H
                                    have p204 : 0 ≤ ((ji129) : Int) := of_decide_eq_true (by first | (with_reducible assumption) | assumption)
                                    have q204 : (ji129) < (t174.length : Int) := of_decide_eq_true (by first | (with_reducible assumption) | assumption)
                                    obtain ⟨ad204, e204, hx204_0⟩ := Kd.at_int (Kd.R_reads' HO_8.out).2.2 (ji129) p204 q204
                                    cases e204
                                    replace p204 := eq_true p204
                                    replace q204 := eq_true q204
                                    obtain ⟨Ao137, co137, eo137⟩ := Kd.R_slice HO_12.out
                                    subst eo137
                                    have p205 : 0 ≤ ((ji129) : Int) := of_decide_eq_true (by first | (with_reducible assumption) | assumption)
                                    have q205 : (ji129) < (x12_6.length : Int) := of_decide_eq_true (by first | (with_reducible assumption) | assumption)
                                    obtain ⟨ad205, e205, hx205_0⟩ := Kd.at_bool (Kd.R_reads' HO_12.out).2.2 (ji129) p205 q205
                                    cases e205
                                    replace p205 := eq_true p205
                                    replace q205 := eq_true q205
                                    have p136 : 0 ≤ (x16_7 : Int) := of_decide_eq_true (by first | (with_reducible assumption) | assumption)
                                    have q136 : (x16_7 : Int) < ((x15_7.length : Int) : Int) := of_decide_eq_true (by first | (with_reducible assumption) | assumption)
                                    obtain ⟨go136, co136, eo136, gb136, gl136, cl136, HG136⟩ := Kd.R_form HO_15.out (by omega)
                                    (first | cases eo136 | (injection eo136 with ea_ en_ ec_; (first | subst ea_ | (injection ea_ with ea_; subst ea_)); subst ec_; clear en_))
                                    have GB136 := Aside0.mk gb136
                                    have GG136 := Aside0.mk HG136
                                    clear gb136 gl136 HG136
                                    obtain ⟨hx136_0, hf136_0⟩ := Kd.R_celln false HO_15.out (x16_7 : Int) p136 q136
                                    replace p136 := eq_true p136
                                    replace q136 := eq_true q136
                                    have HP138 := Kd.R_putg HO_15.out (x16_7 : Int) (rdOf false x12_6 (ji129))
                                    go_wp2_with (first | ((with_reducible refine gate_store (t := 4) (p := 137) rfl ?_); refine store_event (t := 4) (p := 137) (v := ?vo_w139) (w1 := (wr.setCell ⟨go136, (x16_7 : Int).toNat, none⟩ (.bool (rdOf false x12_6 (ji129))))) ?hg ?ho ?hn ?hr ?_; (case ho => rfl); (case hg => rfl); (case hn => rfl); (case hr => first | (go_simp; done) | (go_simp; rfl)); intro w139 hw; have hg : wr.grownBy w139 (some go136) := (by rw [hw]; exact HP138.2); have hp_ : Kd.R Kd.bool 4 w139 w.heap.size (fun k_ => some k_ ≠ (.slice (some ad205) x12_6.length co137 : Value).ownBlock) (.slice (some ⟨go136, 0, none⟩) x15_7.length co136) y206 := (by rw [hw, Ny206.out]; exact HP138.1); clear HP138; have n0_ := Aside0.mk (Kd.R_over' (v := (.slice (some ⟨go136, 0, none⟩) x15_7.length co136)) (by (with_reducible repeat (first | apply Kd.R_alloc | apply Kd.R_drewN | apply Kd.R_drew)); exact HO_8.out) (Kd.R_typed HO_15.out) (by decide) hg); have n1_ := Aside0.mk (Kd.R_after (v := (.slice (some ⟨go136, 0, none⟩) x15_7.length co136)) (v1 := (.slice (some ⟨go136, 0, none⟩) x15_7.length co136)) (ok := (fun _ => True)) (by (with_reducible repeat (first | apply Kd.R_alloc | apply Kd.R_drewN | apply Kd.R_drew)); exact Kd.R_mono HO_12.out (fun _ hk => ⟨trivial, hk⟩)) hg (.inl rfl)); have n2_ := Aside0.mk (hp_); have n3_ := Aside0.mk (Kd.R_over' (v := (.slice (some ⟨go136, 0, none⟩) x15_7.length co136)) (by (with_reducible repeat (first | apply Kd.R_alloc | apply Kd.R_drewN | apply Kd.R_drew)); exact HO_77.out) (Kd.R_typed HO_15.out) (by decide) hg); have n4_ := Aside0.mk (blk_grown (g := gb169) (o := .cells #[.int .i64 a0_0, .int .i64 a0_1, .string a0_2] 25 (0, 0)) (by (with_reducible repeat (first | refine blk_drewN ?_ _ | refine blk_drew ?_ | refine blk_alloc ?_ _)); exact BK169.out) hg (Kd.R_ne HO_15.out BK169.out (by decide))); have n5_ := Aside0.mk (blk_grown (g := gb170) (o := .cells #[.int .i64 a1_0, .int .i64 a1_1, .string a1_2] 25 (0, 0)) (by (with_reducible repeat (first | refine blk_drewN ?_ _ | refine blk_drew ?_ | refine blk_alloc ?_ _)); exact BK170.out) hg (Kd.R_ne HO_15.out BK170.out (by decide))); have n6_ := Aside0.mk (blk_grown (g := gb171) (o := .cells #[.int .i64 0, .int .i64 0, .string (⟨#[]⟩ : ByteArray)] 25 (0, 0)) (by (with_reducible repeat (first | refine blk_drewN ?_ _ | refine blk_drew ?_ | refine blk_alloc ?_ _)); exact BK171.out) hg (Kd.R_ne HO_15.out BK171.out (by decide))); have n7_ := Aside0.mk ((by rw [hw]; exact below_set (HB.out) GB136.out : Below w.heap.size w w139)); clear HO_8; clear HO_12; clear HO_15; clear HO_77; clear BK169; clear BK170; clear BK171; clear HB; have HO_8 := n0_; have HO_12 := n1_; have HO_15 := n2_; have HO_77 := n3_; have BK169 := n4_; have BK170 := n5_; have BK171 := n6_; have HB := n7_; clear n0_ n1_ n2_ n3_ n4_ n5_ n6_ n7_; clear hg hw hp_))
                                    go_roundg k7
                                    case measure => have := HJ2.out; have := HJ24.out; have := HJ32.out; have := HJ40.out; have := HJ46.out; have := HK6.out; have := HK7.out; omega
                                    case rel => exact ⟨(y206), (wrap64 (x16_7 + 1)), (by first | rfl | (simp; done) | (simp [*]; done)), H', ⟨by have := HJ2.out; have := HJ24.out; have := HJ32.out; have := HJ40.out; have := HJ46.out; have := HK6.out; have := HK7.out; omega⟩, ⟨by (with_reducible repeat (first | apply Kd.R_alloc | apply Kd.R_drewN | apply Kd.R_drew)); exact HO_8.out⟩, ⟨by (with_reducible repeat (first | apply Kd.R_alloc | apply Kd.R_drewN | apply Kd.R_drew)); exact Kd.R_mono HO_12.out (fun _ hk => hk.2)⟩, ⟨by (with_reducible repeat (first | apply Kd.R_alloc | apply Kd.R_drewN | apply Kd.R_drew)); exact HO_15.out⟩, ⟨by (with_reducible repeat (first | apply Kd.R_alloc | apply Kd.R_drewN | apply Kd.R_drew)); exact HO_77.out⟩, ⟨by (with_reducible repeat (first | refine blk_drewN ?_ _ | refine blk_drew ?_ | refine blk_alloc ?_ _)); exact BK169.out⟩, ⟨by (with_reducible repeat (first | refine blk_drewN ?_ _ | refine blk_drew ?_ | refine blk_alloc ?_ _)); exact BK170.out⟩, ⟨by (with_reducible repeat (first | refine blk_drewN ?_ _ | refine blk_drew ?_ | refine blk_alloc ?_ _)); exact BK171.out⟩, ⟨by repeat (first | (with_reducible first | exact HB.out | apply below_alloc | apply pw_below_drewN | apply below_drew1 | refine below_set ?_ GE169.out | refine below_set ?_ GE170.out | refine below_set ?_ GE171.out) | exact HB.out)⟩⟩
                                   ·rw [if_neg c135] at H
                                    exact absurd H (by simp)
                                  ·rw [if_neg c134] at H
                                   exact absurd H (by simp)
                                 ·rw [if_neg c133] at H
                                  exact absurd H (by simp)
                                ·rw [if_neg c132] at H
                                 have c132b0 : ((rd t186 x79_6) == (rd t174 (ji129))) = false := beq_eq_false_iff_ne.mpr c132
                                 have c132b1 : ((rd t186 x79_6) != (rd t174 (ji129))) = true := bne_iff_ne.mpr c132
                                 have H' := Aside0.mk H
                                 clear H
                                 have p204 : 0 ≤ ((ji129) : Int) := of_decide_eq_true (by first | (with_reducible assumption) | assumption)
                                 have q204 : (ji129) < (t174.length : Int) := of_decide_eq_true (by first | (with_reducible assumption) | assumption)
                                 obtain ⟨ad204, e204, hx204_0⟩ := Kd.at_int (Kd.R_reads' HO_8.out).2.2 (ji129) p204 q204
                                 cases e204
                                 replace p204 := eq_true p204
                                 replace q204 := eq_true q204
                                 go_wp2
                                 go_roundg k7
                                 case measure => have := HJ2.out; have := HJ24.out; have := HJ32.out; have := HJ40.out; have := HJ46.out; have := HK6.out; have := HK7.out; omega
                                 case rel => exact ⟨(x15_7), (wrap64 (x16_7 + 1)), (by first | rfl | (simp; done) | (simp [*]; done)), H', ⟨by have := HJ2.out; have := HJ24.out; have := HJ32.out; have := HJ40.out; have := HJ46.out; have := HK6.out; have := HK7.out; omega⟩, ⟨by (with_reducible repeat (first | apply Kd.R_alloc | apply Kd.R_drewN | apply Kd.R_drew)); exact HO_8.out⟩, ⟨by (with_reducible repeat (first | apply Kd.R_alloc | apply Kd.R_drewN | apply Kd.R_drew)); exact HO_12.out⟩, ⟨by (with_reducible repeat (first | apply Kd.R_alloc | apply Kd.R_drewN | apply Kd.R_drew)); exact HO_15.out⟩, ⟨by (with_reducible repeat (first | apply Kd.R_alloc | apply Kd.R_drewN | apply Kd.R_drew)); exact HO_77.out⟩, ⟨by (with_reducible repeat (first | refine blk_drewN ?_ _ | refine blk_drew ?_ | refine blk_alloc ?_ _)); exact BK169.out⟩, ⟨by (with_reducible repeat (first | refine blk_drewN ?_ _ | refine blk_drew ?_ | refine blk_alloc ?_ _)); exact BK170.out⟩, ⟨by (with_reducible repeat (first | refine blk_drewN ?_ _ | refine blk_drew ?_ | refine blk_alloc ?_ _)); exact BK171.out⟩, ⟨by repeat (first | (with_reducible first | exact HB.out | apply below_alloc | apply pw_below_drewN | apply below_drew1 | refine below_set ?_ GE169.out | refine below_set ?_ GE170.out | refine below_set ?_ GE171.out) | exact HB.out)⟩⟩
                               ·rw [if_neg c131] at H
                                exact absurd H (by simp)
                              ·rw [if_neg c130] at H
                               exact absurd H (by simp)
                            ·rw [if_neg c118] at H
                             have c118b0 : decide (0 < x16_7) = false := decide_eq_false c118
                             clear c118
                             have H' := Aside0.mk H
                             clear H
                             go_wp2
                             go_roundg k7
                             case measure => have := HJ2.out; have := HJ24.out; have := HJ32.out; have := HJ40.out; have := HJ46.out; have := HK6.out; have := HK7.out; omega
                             case rel => exact ⟨(x15_7), (wrap64 (x16_7 + 1)), (by first | rfl | (simp; done) | (simp [*]; done)), H', ⟨by have := HJ2.out; have := HJ24.out; have := HJ32.out; have := HJ40.out; have := HJ46.out; have := HK6.out; have := HK7.out; omega⟩, ⟨by (with_reducible repeat (first | apply Kd.R_alloc | apply Kd.R_drewN | apply Kd.R_drew)); exact HO_8.out⟩, ⟨by (with_reducible repeat (first | apply Kd.R_alloc | apply Kd.R_drewN | apply Kd.R_drew)); exact HO_12.out⟩, ⟨by (with_reducible repeat (first | apply Kd.R_alloc | apply Kd.R_drewN | apply Kd.R_drew)); exact HO_15.out⟩, ⟨by (with_reducible repeat (first | apply Kd.R_alloc | apply Kd.R_drewN | apply Kd.R_drew)); exact HO_77.out⟩, ⟨by (with_reducible repeat (first | refine blk_drewN ?_ _ | refine blk_drew ?_ | refine blk_alloc ?_ _)); exact BK169.out⟩, ⟨by (with_reducible repeat (first | refine blk_drewN ?_ _ | refine blk_drew ?_ | refine blk_alloc ?_ _)); exact BK170.out⟩, ⟨by (with_reducible repeat (first | refine blk_drewN ?_ _ | refine blk_drew ?_ | refine blk_alloc ?_ _)); exact BK171.out⟩, ⟨by repeat (first | (with_reducible first | exact HB.out | apply below_alloc | apply pw_below_drewN | apply below_drew1 | refine below_set ?_ GE169.out | refine below_set ?_ GE170.out | refine below_set ?_ GE171.out) | exact HB.out)⟩⟩
                          ·rw [if_neg c92] at H
                           have c92b0 : decide (x16_7 ≤ (t174.length : Int)) = false := decide_eq_false c92
                           clear c92
                           have H' := Aside0.mk H
                           clear H
                           go_wp2
                           go_roundg k7
                           case measure => have := HJ2.out; have := HJ24.out; have := HJ32.out; have := HJ40.out; have := HJ46.out; have := HK6.out; have := HK7.out; omega
                           case rel => exact ⟨(x15_7), (wrap64 (x79_6 + 1)), (by first | rfl | (simp; done) | (simp [*]; done)), H', ⟨by have := HJ2.out; have := HJ24.out; have := HJ32.out; have := HJ40.out; have := HJ46.out; have := HK6.out; have := HK7.out; omega⟩, ⟨by (with_reducible repeat (first | apply Kd.R_alloc | apply Kd.R_drewN | apply Kd.R_drew)); exact HO_8.out⟩, ⟨by (with_reducible repeat (first | apply Kd.R_alloc | apply Kd.R_drewN | apply Kd.R_drew)); exact Kd.R_mono HO_15.out (fun _ hk => trivial)⟩, ⟨by (with_reducible repeat (first | apply Kd.R_alloc | apply Kd.R_drewN | apply Kd.R_drew)); exact HO_77.out⟩, ⟨by (with_reducible repeat (first | refine blk_drewN ?_ _ | refine blk_drew ?_ | refine blk_alloc ?_ _)); exact BK169.out⟩, ⟨by (with_reducible repeat (first | refine blk_drewN ?_ _ | refine blk_drew ?_ | refine blk_alloc ?_ _)); exact BK170.out⟩, ⟨by (with_reducible repeat (first | refine blk_drewN ?_ _ | refine blk_drew ?_ | refine blk_alloc ?_ _)); exact BK171.out⟩, ⟨by repeat (first | (with_reducible first | exact HB.out | apply below_alloc | apply pw_below_drewN | apply below_drew1 | refine below_set ?_ GE169.out | refine below_set ?_ GE170.out | refine below_set ?_ GE171.out) | exact HB.out)⟩⟩
                       ·rw [if_neg c89] at H
                        exact absurd H (by simp)
                      ·rw [if_neg c88] at H
                       exact absurd H (by simp)
                     ·rw [if_neg c86] at H
                      exact absurd H (by simp)
                    ·rw [if_neg c85] at H
                     exact absurd H (by simp)
                   ·rw [if_neg c84] at H
                    have c84b0 : decide (x79_6 < (t186.length : Int)) = false := decide_eq_false c84
                    clear c84
                    by_cases c140 : 0 ≤ (t174.length : Int)
                    ·rw [if_pos c140] at H
                     have c140b0 : decide (0 ≤ (t174.length : Int)) = true := decide_eq_true c140
                     have c140b1 : decide (0 ≤ t174.length) = true := decide_eq_true (by omega)
                     clear c140
                     by_cases c141 : (t174.length : Int) < (x12_6.length : Int)
                     ·rw [if_pos c141] at H
                      have c141b0 : decide ((t174.length : Int) < (x12_6.length : Int)) = true := decide_eq_true c141
                      have c141b1 : decide (t174.length < x12_6.length) = true := decide_eq_true (Int.ofNat_lt.mp c141)
                      clear c141
                      replace H := Option.bind_eq_some_iff.mp H
                      obtain ⟨⟨t190, t191, t192⟩, A1420, H⟩ := H
                      replace H : (some (t190, t191, t192, 0)) = some (r1, r2, r3, r4) := H
                      have A142 := Aside0.mk A1420
                      clear A1420
                      simp only [Option.some.injEq, Prod.mk.injEq] at H
                      obtain ⟨rfl, rfl, rfl, rfl⟩ := H
                      obtain ⟨Ao143, co143, eo143⟩ := Kd.R_slice HO_12.out
                      subst eo143
                      have p189 : 0 ≤ ((t174.length : Int) : Int) := of_decide_eq_true (by first | (with_reducible assumption) | assumption)
                      have q189 : (t174.length : Int) < (x12_6.length : Int) := of_decide_eq_true (by first | (with_reducible assumption) | assumption)
                      obtain ⟨ad189, e189, hx189_0⟩ := Kd.at_bool (Kd.R_reads' HO_12.out).2.2 (t174.length : Int) p189 q189
                      cases e189
                      (try simp only [Go.IntWalk.toNatUp] at hx189_0)
                      replace p189 := eq_true p189
                      replace q189 := eq_true q189
                      go_wp2_with (first | ((with_reducible refine gate_callee (f := 27) rfl ?_); refine goesL_ (some 145) rfl rfl Tryd.func27 (by kernel_rfl) rfl #[.bool (rdOf false x12_6 (t174.length : Int))] rfl (by (try simp only [List.map_toArray, List.map_cons, List.map_nil]); first | done | rfl | (simp only [List.length_drop, List.length_take]; rfl)) ?_; (with_reducible refine (spec_l01Truth.calls (rdOf false x12_6 (t174.length : Int)) t190 t191 t192 _ A142.out).mono ?_); rintro e w144 ⟨rfl, hb⟩; refine ⟨_, rfl, ?_⟩; have n0_ := Aside0.mk (Kd.R_below (by (with_reducible repeat (first | apply Kd.R_alloc | apply Kd.R_drewN | apply Kd.R_drew)); exact HO_8.out) hb); have n1_ := Aside0.mk (Kd.R_below (by (with_reducible repeat (first | apply Kd.R_alloc | apply Kd.R_drewN | apply Kd.R_drew)); exact HO_12.out) hb); have n2_ := Aside0.mk (Kd.R_below (by (with_reducible repeat (first | apply Kd.R_alloc | apply Kd.R_drewN | apply Kd.R_drew)); exact HO_77.out) hb); have n3_ := Aside0.mk (blk_below (g := gb169) (o := .cells #[.int .i64 a0_0, .int .i64 a0_1, .string a0_2] 25 (0, 0)) (by (with_reducible repeat (first | refine blk_drewN ?_ _ | refine blk_drew ?_ | refine blk_alloc ?_ _)); exact BK169.out) hb); have n4_ := Aside0.mk (blk_below (g := gb170) (o := .cells #[.int .i64 a1_0, .int .i64 a1_1, .string a1_2] 25 (0, 0)) (by (with_reducible repeat (first | refine blk_drewN ?_ _ | refine blk_drew ?_ | refine blk_alloc ?_ _)); exact BK170.out) hb); have n5_ := Aside0.mk (blk_below (g := gb171) (o := .cells #[.int .i64 0, .int .i64 0, .string (⟨#[]⟩ : ByteArray)] 25 (0, 0)) (by (with_reducible repeat (first | refine blk_drewN ?_ _ | refine blk_drew ?_ | refine blk_alloc ?_ _)); exact BK171.out) hb); have n6_ := Aside0.mk (below_step (by repeat (first | (with_reducible first | exact HB.out | apply below_alloc | apply pw_below_drewN | apply below_drew1 | refine below_set ?_ GE169.out | refine below_set ?_ GE170.out | refine below_set ?_ GE171.out) | exact HB.out)) hb); clear HO_8; clear HO_12; clear HO_77; clear BK169; clear BK170; clear BK171; clear HB; have HO_8 := n0_; have HO_12 := n1_; have HO_77 := n2_; have BK169 := n3_; have BK170 := n4_; have BK171 := n5_; have HB := n6_; clear n0_ n1_ n2_ n3_ n4_ n5_ n6_; (try clear hb); (try clear hb2); (try clear hk); (try clear hi); have hnb145 := NB171_169.out; have hnc145 := NB169_171.out; have hnb146 := NB171_170.out; have hnc146 := NB170_171.out; have hcz147_0 : w144.cell? ⟨gb171, 0, none⟩ = some (.int .i64 0) := (blk_cell BK171.out 0).trans rfl; have hcz147_1 : w144.cell? ⟨gb171, 1, none⟩ = some (.int .i64 0) := (blk_cell BK171.out 1).trans rfl; have hcz147_2 : w144.cell? ⟨gb171, 2, none⟩ = some (.string (⟨#[]⟩ : ByteArray)) := (blk_cell BK171.out 2).trans rfl; have hfz147_0 := blk_frozen BK171.out 0; have hfz147_1 := blk_frozen BK171.out 1; have hfz147_2 := blk_frozen BK171.out 2))
                      refine bodyPost_ret (results_ct rfl _ _ gb171 25 #[.int .i64 t190, .int .i64 t191, .string t192] (0, 0) _ rfl (by (with_reducible repeat (first | refine blk_drewN ?_ _ | refine blk_drew ?_ | refine blk_alloc ?_ _)); refine blk_put (cs := #[.int .i64 t190, .int .i64 t191, .string (⟨#[]⟩ : ByteArray)]) ?_ 2 _ rfl; (with_reducible repeat (first | refine blk_drewN ?_ _ | refine blk_drew ?_ | refine blk_alloc ?_ _)); refine blk_put (cs := #[.int .i64 t190, .int .i64 0, .string (⟨#[]⟩ : ByteArray)]) ?_ 1 _ rfl; (with_reducible repeat (first | refine blk_drewN ?_ _ | refine blk_drew ?_ | refine blk_alloc ?_ _)); refine blk_put (cs := #[.int .i64 0, .int .i64 0, .string (⟨#[]⟩ : ByteArray)]) ?_ 0 _ rfl; (with_reducible repeat (first | refine blk_drewN ?_ _ | refine blk_drew ?_ | refine blk_alloc ?_ _)); exact BK171.out) Tryd.underlying25 rfl (by kernel_rfl)) rfl ?_
                      exact ⟨by first | rfl | (simp [errW_none, errW_some] <;> rfl) | (simp only [← hji63]; first | rfl | (simp [errW_none, errW_some] <;> rfl)) | (simp [*, errW_none, errW_some] <;> rfl), by repeat (first | (with_reducible first | exact HB.out | apply below_alloc | apply pw_below_drewN | apply below_drew1 | refine below_set ?_ GE169.out | refine below_set ?_ GE170.out | refine below_set ?_ GE171.out) | exact HB.out)⟩
                     ·rw [if_neg c141] at H
                      exact absurd H (by simp)
                    ·rw [if_neg c140] at H
                     exact absurd H (by simp)
                ·rw [if_neg c66] at H
                 exact absurd H (by simp)
               ·rw [if_neg c65] at H
                exact absurd H (by simp)
              ·rw [if_neg c64] at H
               exact absurd H (by simp)

end Go.Proofs.YtaicfmmgmblmiaaDoor.QFnExactLike
