/- Proved: what impl.scan answers at a digit. -/
import Derived.Test.YtackifpnpkbddaaGreatDoorScW
namespace Go.Proofs.YtackifpnpkbddaaGreatDoorScan
open Go Go.RowKit Go.Proofs.YtackifpnpkbddaaGreatDoorW.PrintWords Go.Proofs.YtackifpnpkbddaaGreatDoorW.PrintLast Go.Proofs.YtackifpnpkbddaaGreatDoorW.PrintMore Go.Proofs.YtackifpnpkbddaaGreatDoor.QScan
set_option linter.unusedVariables false
set_option linter.unusedSimpArgs false
set_option maxHeartbeats 8000000 in
set_option maxRecDepth 100000 in
theorem scan12_num (s : ByteArray) (hs : s.size ≤ 4194304) (h0 : 0 < s.size) (hc : isLet (s.data.toList.getD 0 0) = false) (hc2 : s.data.toList.getD 0 0 ≠ 34) (hc1 : isDig (s.data.toList.getD 0 0) = true) (k n c a : Int) (t : ByteArray) (hr : scanNum s.data.toList = (k, t.data.toList, n, c, a)) (w : World) (hT : Tabs w) :
  Calls Tryz.prog 25 #[.string s] w fun e w' => e = .returned (.tuple #[.agg #[.int .i64 k, .string t, .int .i64 0], .int .i64 n, .int .i64 c, .int .i64 a]) ∧ Below w.heap.size w w' := by
 have hu := Tryz.underlying35
 have HT := Aside0.mk hT
 have HS := Aside0.mk hs
 have HZ := Aside0.mk h0
 obtain ⟨L, hL⟩ : ∃ L, s.data.toList = L := ⟨_, rfl⟩
 have HL := Aside0.mk hL
 have HN := Aside0.mk (show s.size = L.length by rw [← hL]; rfl)
 rw [hL] at hr hc hc1 hc2
 have HR := Aside0.mk hr
 obtain ⟨x0, hx0⟩ : ∃ x0 : Int, ((L.getD 0 0).toNat : Int) = x0 := ⟨_, rfl⟩
 have HX := Aside0.mk hx0
 have hx : ∀ h : 0 < s.size, ((s[0]'h).toNat : Int) = x0 := fun h => by rw [← hx0, ← hL]; have := bt_nat s 0 h; rw [this, bt_get s 0 h]
 have p0 : ((0 : Int) < (s.size : Int)) = True := eq_true (by omega)
 have p0n : (0 < s.size) = True := eq_true h0
 have HC0 := Aside0.mk hc
 have HC1 := Aside0.mk hc1
 have e34 : (x0 == 34) = false := by rw [← hx0]; simp only [beq_eq_false_iff_ne, ne_eq]; intro h_; exact hc2 (UInt8.toNat_inj.1 (show (L.getD 0 0).toNat = 34 by omega))
 clear hc hc1 hc2
 clear hT hr hs hL hx0 h0
 have HB := Aside0.mk (Below.refl w.heap.size w)
 have tokl : True := trivial
 have tokg : True := trivial
 have tokn : True := trivial
 go_enter Tryz.func25, Tryz.ntmps25
 go_wp2_with (first | ((with_reducible refine gate_dst (N := 2) rfl ?_); refine box_event ?hg (N := 2) ?hd (cs := #[.int .i64 0, .string (⟨#[]⟩ : ByteArray), .int .i64 0]) (t := 35) ?hr ?_; (case hd => rfl); (case hg => rfl); (case hr => first | (go_simp; done) | (go_simp; rfl)); intro b2 hg w2 hbox hb; have GE2 := Aside0.mk (show w.heap.size ≤ b2 by rw [hg]; exact below_size HB.out); replace HB := Aside0.mk (below_step HB.out hb); skip; have BK2 := Aside0.mk hbox; clear hbox hg hb) | (go_at_call 32; have t_ := tokl; clear t_; (with_reducible refine (letter0 L x0 HX.out false HC0.out _).mono ?_); rintro en w25 ⟨rfl, hb⟩; replace HB := Aside0.mk (below_step HB.out hb); replace BK2 := Aside0.mk (blk_below BK2.out hb); clear hb tokl) | (go_at_call 33; have t_ := tokg; clear t_; (with_reducible refine (digit0 L x0 HX.out true HC1.out _).mono ?_); rintro en w26 ⟨rfl, hb⟩; replace HB := Aside0.mk (below_step HB.out hb); replace BK2 := Aside0.mk (blk_below BK2.out hb); clear hb tokg) | (go_at_call 42; have t_ := tokn; clear t_; (with_reducible refine (scanNumber28 s HS.out k n c a t (by rw [HL.out]; exact HR.out) _ (HT.out.below HB.out)).mono ?_); rintro en w28 ⟨rfl, hb⟩; replace HB := Aside0.mk (below_step HB.out hb); replace BK2 := Aside0.mk (blk_below BK2.out hb); clear hb tokn; obtain ⟨hz2_0, hz2_1, hz2_2, hf2_0, hf2_1, hf2_2⟩ := row3 BK2.out))
 refine bodyPost_ret (results_list (rs := [.cell 2 35, .tmp 3, .tmp 4, .tmp 5]) rfl (by simp) (.cell b2 35 #[.int .i64 k, .string t, .int .i64 0] (0, 0) _ rfl (put3 BK2.out) Tryz.underlying35 rfl (by kernel_rfl) (.tmp (.tmp (.tmp .nil))))) rfl ?_
 exact ⟨rfl, by repeat (first | (with_reducible first | exact HB.out | refine below_set ?_ GE2.out | refine below_set ?_ GE8.out) | exact HB.out)⟩
end Go.Proofs.YtackifpnpkbddaaGreatDoorScan
