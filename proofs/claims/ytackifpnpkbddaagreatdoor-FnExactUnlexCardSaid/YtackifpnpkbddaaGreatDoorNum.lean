/- Proved: what spec.l02Number answers at a digit, in the form in which a walk takes it. No other conditions but the text's size. -/
import Derived.Test.YtackifpnpkbddaaGreatDoorNumA
import Derived.Test.YtackifpnpkbddaaGreatDoorNumB1
import Derived.Test.YtackifpnpkbddaaGreatDoorNumB2
namespace Go.Proofs.YtackifpnpkbddaaGreatDoorScan
open Go Go.RowKit
theorem number19 (s : ByteArray) (hs : s.size ≤ 1048576) (at_ : Nat) (hat : at_ < s.size) (hd : isDig (s.data.toList.getD at_ 0) = true) (k p n c a : Int) (t : ByteArray) (hr : conv at_ (scanNum (s.data.toList.drop at_)) = (k, t, p, n, c, a)) (w : World) :
  Calls Tryz.prog 48 #[.string s, .int .i64 (at_ : Int)] w fun e w' => e = .returned (.tuple #[.agg #[.int .i64 k, .string t, .int .i64 p], .int .i64 n, .int .i64 c, .int .i64 a]) ∧ Below w.heap.size w w' := by
 by_cases h1 : 19 < (whole ((s.data.toList.drop at_).take (cnt isDig (s.data.toList.drop at_)))).length
 ·exact number19_A s hs at_ hat hd h1 k p n c a t hr w
 ·by_cases h2 : 9223372036854775808 ≤ val 0 (whole ((s.data.toList.drop at_).take (cnt isDig (s.data.toList.drop at_))))
  ·exact number19_B1 s hs at_ hat hd (Nat.le_of_not_lt h1) h2 k p n c a t hr w
  ·exact number19_B2 s hs at_ hat hd (Nat.le_of_not_lt h1) (Nat.lt_of_not_le h2) k p n c a t hr w
def spec_l02Number.f (a0 : ByteArray) (a1 : Int) : Option (Int × ByteArray × Int × Int × Int × Int) :=
 if 0 ≤ a1 ∧ a1 < (a0.size : Int) ∧ a0.size ≤ 1048576 ∧ isDig (a0.data.toList.getD a1.toNat 0) = true then some (conv a1.toNat (scanNum (a0.data.toList.drop a1.toNat))) else none
theorem spec_l02Number.calls (a0 : ByteArray) (a1 : Int) (r1 : Int) (r2 : ByteArray) (r3 : Int) (r4 : Int) (r5 : Int) (r6 : Int) (w : World) (h : spec_l02Number.f a0 a1 = some (r1, r2, r3, r4, r5, r6)) :
  Calls Tryz.prog 48 #[.string a0, .int .i64 a1] w fun e w' => e = .returned (.tuple #[.agg #[.int .i64 r1, .string r2, .int .i64 r3], .int .i64 r4, .int .i64 r5, .int .i64 r6]) ∧ Below w.heap.size w w' := by
 unfold spec_l02Number.f at h
 by_cases hc : 0 ≤ a1 ∧ a1 < (a0.size : Int) ∧ a0.size ≤ 1048576 ∧ isDig (a0.data.toList.getD a1.toNat 0) = true
 ·rw [if_pos hc] at h
  obtain ⟨h1, h2, h3, h4⟩ := hc
  obtain ⟨n, rfl⟩ : ∃ n : Nat, a1 = (n : Int) := ⟨a1.toNat, by omega⟩
  rw [Int.toNat_natCast] at h h4
  exact number19 a0 h3 n (by omega) h4 _ _ _ _ _ _ (Option.some.inj h) w
 ·rw [if_neg hc] at h; cases h
end Go.Proofs.YtackifpnpkbddaaGreatDoorScan
