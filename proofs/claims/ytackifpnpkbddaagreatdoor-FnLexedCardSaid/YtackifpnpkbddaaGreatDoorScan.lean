/- Proved: what impl.scan answers at every row of bytes that is not empty. Condition: the variables lie in memory (Tabs). -/
import Derived.Test.YtackifpnpkbddaaGreatDoorScQ
import Derived.Test.YtackifpnpkbddaaGreatDoorScT
import Derived.Test.YtackifpnpkbddaaGreatDoorScN
import Derived.Test.YtackifpnpkbddaaGreatDoorScG
namespace Go.Proofs.YtackifpnpkbddaaGreatDoorScan
open Go Go.RowKit Go.Proofs.YtackifpnpkbddaaGreatDoorW.PrintWords Go.Proofs.YtackifpnpkbddaaGreatDoorW.PrintLast Go.Proofs.YtackifpnpkbddaaGreatDoorW.PrintMore Go.Proofs.YtackifpnpkbddaaGreatDoor.QScan
set_option linter.unusedVariables false
set_option linter.unusedSimpArgs false
theorem scan12 (s : ByteArray) (hs : s.size ≤ 4194304) (h0 : 0 < s.size) (k n c a : Int) (t : ByteArray) (hr : scanL s.data.toList = (k, t.data.toList, n, c, a)) (w : World) (hT : Tabs w) :
  Calls Tryz.prog 25 #[.string s] w fun e w' => e = .returned (.tuple #[.agg #[.int .i64 k, .string t, .int .i64 0], .int .i64 n, .int .i64 c, .int .i64 a]) ∧ Below w.heap.size w w' := by
 unfold scanL at hr
 by_cases h1 : isLet (s.data.toList.getD 0 0) = true
 ·rw [if_pos h1] at hr
  exact scan12_word s hs h0 h1 k n c a t hr w hT
 ·rw [if_neg h1] at hr
  have h1' : isLet (s.data.toList.getD 0 0) = false := by simpa using h1
  by_cases h2 : s.data.toList.getD 0 0 = 34
  ·rw [if_pos h2] at hr
   exact scan12_quoted s hs h0 h2 k n c a t hr w hT
  ·rw [if_neg h2] at hr
   by_cases h3 : isDig (s.data.toList.getD 0 0) = true
   ·rw [if_pos h3] at hr
    exact scan12_num s hs h0 h1' h2 h3 k n c a t hr w hT
   ·rw [if_neg h3] at hr
    have h3' : isDig (s.data.toList.getD 0 0) = false := by simpa using h3
    by_cases h4 : s.data.toList.getD 0 0 = 39
    ·rw [if_pos h4] at hr
     exact scan12_text s hs h0 h4 k n c a t hr w hT
    ·rw [if_neg h4] at hr
     exact scan12_sign s hs h0 h1' h2 h3' h4 k n c a t hr w hT
def impl_scan.f (a0 : ByteArray) : Option (Int × ByteArray × Int × Int × Int × Int) :=
 if 0 < a0.size ∧ a0.size ≤ 4194304 then some ((scanL a0.data.toList).1, ⟨(scanL a0.data.toList).2.1.toArray⟩, 0, (scanL a0.data.toList).2.2.1, (scanL a0.data.toList).2.2.2.1, (scanL a0.data.toList).2.2.2.2) else none
theorem impl_scan.calls (a0 : ByteArray) (r1 : Int) (r2 : ByteArray) (r3 : Int) (r4 : Int) (r5 : Int) (r6 : Int) (w : World) (hT : Tabs w) (h : impl_scan.f a0 = some (r1, r2, r3, r4, r5, r6)) :
  Calls Tryz.prog 25 #[.string a0] w fun e w' => e = .returned (.tuple #[.agg #[.int .i64 r1, .string r2, .int .i64 r3], .int .i64 r4, .int .i64 r5, .int .i64 r6]) ∧ Below w.heap.size w w' := by
 unfold impl_scan.f at h
 by_cases hc : 0 < a0.size ∧ a0.size ≤ 4194304
 ·rw [if_pos hc] at h
  simp only [Option.some.injEq, Prod.mk.injEq] at h
  obtain ⟨rfl, rfl, rfl, rfl, rfl, rfl⟩ := h
  exact scan12 a0 hc.2 hc.1 _ _ _ _ _ rfl w hT
 ·rw [if_neg hc] at h; cases h
end Go.Proofs.YtackifpnpkbddaaGreatDoorScan
