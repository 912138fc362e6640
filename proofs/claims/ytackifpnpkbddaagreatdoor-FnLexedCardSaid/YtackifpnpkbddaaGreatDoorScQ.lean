/- Proved: what impl.scan answers at a quoted name. -/
import Derived.Test.YtackifpnpkbddaaGreatDoorScW
namespace Go.Proofs.YtackifpnpkbddaaGreatDoorScan
open Go Go.RowKit Go.Proofs.YtackifpnpkbddaaGreatDoorW.PrintWords Go.Proofs.YtackifpnpkbddaaGreatDoorW.PrintLast Go.Proofs.YtackifpnpkbddaaGreatDoorW.PrintMore Go.Proofs.YtackifpnpkbddaaGreatDoor.QScan
set_option linter.unusedVariables false
set_option linter.unusedSimpArgs false
theorem quo_empty {t : B} {m : Nat} (h : t = []) : quoF (some (t, m)) = err 2 := by show (if _ ∨ t = [] then err 2 else _) = _; rw [if_pos (.inr h)]
theorem quo_long {t : ByteArray} {m : Nat} (h : ¬ (t.data.toList.all isPr = false ∨ t.data.toList = [])) (v : 30 < t.size) : quoF (some (t.data.toList, m)) = err 5 := by
 show (if t.data.toList.all isPr = false ∨ t.data.toList = [] then err 2 else if 30 < t.data.toList.length then err 5 else _) = _
 rw [if_neg h, if_pos (show 30 < t.data.toList.length from v)]
theorem quo_ok {t : ByteArray} {m : Nat} (h : ¬ (t.data.toList.all isPr = false ∨ t.data.toList = [])) (v : ¬ 30 < t.size) : quoF (some (t.data.toList, m)) = (2, t.data.toList, (m : Int) + 1, 0, 0) := by
 show (if t.data.toList.all isPr = false ∨ t.data.toList = [] then err 2 else if 30 < t.data.toList.length then err 5 else _) = _
 rw [if_neg h, if_neg (show ¬ 30 < t.data.toList.length from v)]
set_option maxHeartbeats 8000000 in
set_option maxRecDepth 100000 in
theorem scan12_quoted (s : ByteArray) (hs : s.size ≤ 4194304) (h0 : 0 < s.size) (hc2 : s.data.toList.getD 0 0 = 34) (k n c a : Int) (t : ByteArray) (hr : quoF (betw 34 (s.data.toList.drop 1)) = (k, t.data.toList, n, c, a)) (w : World) (hT : Tabs w) :
  Calls Tryz.prog 25 #[.string s] w fun e w' => e = .returned (.tuple #[.agg #[.int .i64 k, .string t, .int .i64 0], .int .i64 n, .int .i64 c, .int .i64 a]) ∧ Below w.heap.size w w' := by
 have hu := Tryz.underlying35
 have HT := Aside0.mk hT
 have HS := Aside0.mk hs
 have HZ := Aside0.mk h0
 obtain ⟨L, hL⟩ : ∃ L, s.data.toList = L := ⟨_, rfl⟩
 have HL := Aside0.mk hL
 have HN := Aside0.mk (show s.size = L.length by rw [← hL]; rfl)
 rw [hL] at hr hc2
 have HR := Aside0.mk hr
 obtain ⟨x0, hx0⟩ : ∃ x0 : Int, ((L.getD 0 0).toNat : Int) = x0 := ⟨_, rfl⟩
 have HX := Aside0.mk hx0
 have hx : ∀ h : 0 < s.size, ((s[0]'h).toNat : Int) = x0 := fun h => by rw [← hx0, ← hL]; have := bt_nat s 0 h; rw [this, bt_get s 0 h]
 have p0 : ((0 : Int) < (s.size : Int)) = True := eq_true (by omega)
 have p0n : (0 < s.size) = True := eq_true h0
 have HC0 := Aside0.mk (show isLet (L.getD 0 0) = false by rw [hc2]; decide)
 have e34 : (x0 == 34) = true := by rw [← hx0, hc2]; rfl
 clear hc2
 clear hT hr hs hL hx0 h0
 have HB := Aside0.mk (Below.refl w.heap.size w)
 have tokl : True := trivial
 have tokg : True := trivial
 go_enter Tryz.func25, Tryz.ntmps25
 go_wp2_with (first | ((with_reducible refine gate_dst (N := 2) rfl ?_); refine box_event ?hg (N := 2) ?hd (cs := #[.int .i64 0, .string (⟨#[]⟩ : ByteArray), .int .i64 0]) (t := 35) ?hr ?_; (case hd => rfl); (case hg => rfl); (case hr => first | (go_simp; done) | (go_simp; rfl)); intro b2 hg w2 hbox hb; have GE2 := Aside0.mk (show w.heap.size ≤ b2 by rw [hg]; exact below_size HB.out); replace HB := Aside0.mk (below_step HB.out hb); skip; have BK2 := Aside0.mk hbox; clear hbox hg hb) | (go_at_call 32; have t_ := tokl; clear t_; (with_reducible refine (letter0 L x0 HX.out false HC0.out _).mono ?_); rintro en w25 ⟨rfl, hb⟩; replace HB := Aside0.mk (below_step HB.out hb); replace BK2 := Aside0.mk (blk_below BK2.out hb); clear hb tokl))
 clear hx p0 p0n
 go_loopw [7, 8] (fun v vt w' => ∃ (fl i : Nat) (tx : ByteArray), v = .int .i64 (i : Int) ∧ vt = .string tx ∧ Aside0 (i + fl = L.length) ∧ Aside0 (1 ≤ i ∧ Mid 34 L i tx.data.toList ∧ tx.size ≤ i ∧ tx.data.toList.all isPr = true) ∧ Aside0 (w'.heap[b2]? = some (.cells #[.int .i64 0, .string (⟨#[]⟩ : ByteArray), .int .i64 0] 35 (0, 0))) ∧ Aside0 (Below w.heap.size w w')) (fun v _ _ => L.length - (intOf v).toNat)
 case atStart => exact ⟨L.length - 1, 1, ⟨#[]⟩, rfl, rfl, ⟨by have := HZ.out; have := HN.out; omega⟩, ⟨Nat.le_refl _, mid_start _ _, Nat.zero_le _, rfl⟩, BK2, HB⟩
 case round =>
  clear HB BK2
  obtain ⟨fl, i, tx, rfl, rfl, HI, HM, BK2, HB⟩ := hrel
  have p1 : ((0 : Int) ≤ (i : Int)) = True := eq_true (by omega)
  obtain ⟨j, hj⟩ : ∃ j, i + 1 = j := ⟨_, rfl⟩
  have HJ := Aside0.mk hj
  have hwi := (show wrap64 ((i : Int) + 1) = (j : Int) by have := HN.out; have := HS.out; have := HI.out; unfold wrap64; omega)
  clear hj
  by_cases h1 : i < L.length
  ·have hlt : decide ((i : Int) < (s.size : Int)) = true := decide_eq_true (by have := HN.out; omega)
   have hltn : decide (i < s.size) = true := decide_eq_true (by have := HN.out; omega)
   have q0 : ((i : Int) < (s.size : Int)) = True := eq_true (by have := HN.out; omega)
   have q0n : (i < s.size) = True := eq_true (by have := HN.out; omega)
   have ne0 : ((i : Int) == (s.size : Int)) = false := by simp only [beq_eq_false_iff_ne, ne_eq]; have := HN.out; omega
   have ne0n : (i == s.size) = false := by simp only [beq_eq_false_iff_ne, ne_eq]; have := HN.out; omega
   have ne0p : (i = s.size) = False := eq_false (by have := HN.out; omega)
   have hx := bt_nat s i
   have HLT := Aside0.mk h1
   have HB1 := Aside0.mk (show bt s (i : Int) = ((L.getD i 0).toNat : Int) by rw [bt_get s i (by have := HN.out; omega), HL.out])
   by_cases h2 : L.getD i 0 = 34
   ·have e1 : (bt s (i : Int) == 34) = true := by rw [HB1.out, h2]; rfl
    by_cases h3 : j < L.length
    ·have gj : decide ((j : Int) < (s.size : Int)) = true := decide_eq_true (by have := HN.out; omega)
     have gjn : decide (j < s.size) = true := decide_eq_true (by have := HN.out; omega)
     have gjp : (j < s.size) = True := eq_true (by have := HN.out; omega)
     have pj : ((0 : Int) ≤ (j : Int)) = True := eq_true (by omega)
     have qj : ((j : Int) < (s.size : Int)) = True := eq_true (by have := HN.out; omega)
     have hxj := bt_nat s j
     have HB2 := Aside0.mk (show bt s (j : Int) = ((L.getD j 0).toNat : Int) by rw [bt_get s j (by have := HN.out; omega), HL.out])
     by_cases h4 : L.getD j 0 = 34
     ·have e2 : (bt s (j : Int) == 34) = true := by rw [HB2.out, h4]; rfl
      obtain ⟨m, hm⟩ : ∃ m, j + 1 = m := ⟨_, rfl⟩
      have w1 : decide (bt s (j : Int) < 32) = false := decide_eq_false (by rw [HB2.out, h4]; decide)
      have w2 : decide (126 < bt s (j : Int)) = false := decide_eq_false (by rw [HB2.out, h4]; decide)
      have hwn := (show wrap64 ((j : Int) + 1) = (m : Int) by have := HN.out; have := HS.out; have := HI.out; have := HJ.out; unfold wrap64; omega)
      have ra : ((j : Int) ≤ (m : Int)) = True := eq_true (by omega)
      have rb : ((m : Int) ≤ (s.size : Int)) = True := eq_true (by have := HN.out; have := HJ.out; omega)
      have ran : (j ≤ m) = True := eq_true (by omega)
      have rbn : (m ≤ s.size) = True := eq_true (by have := HN.out; have := HJ.out; omega)
      have hcat : (9223372036854775807 < tx.size + (m - j)) = False := eq_false (by have := HN.out; have := HS.out; have := HI.out; have := HM.out.2.2; omega)
      have hcat2 : decide (9223372036854775807 < tx.size + (m - j)) = false := decide_eq_false (by rw [hcat]; exact fun h_ => h_)
      have HNX := Aside0.mk (show (m ≤ L.length ∧ i + 2 = m) ∧ (1 ≤ m ∧ Mid 34 L m (tx ++ s.extract j m).data.toList ∧ (tx ++ s.extract j m).size ≤ m ∧ (tx ++ s.extract j m).data.toList.all isPr = true) by
       have h9 : (tx ++ s.extract j m).data.toList = tx.data.toList ++ [34] := by rw [← hm, one_data s L HL.out tx j h3, h4]
       have h8 : i + 2 = m := by have := HJ.out; omega
       refine ⟨⟨by omega, h8⟩, by omega, ?_, ?_, ?_⟩
       ·rw [h9, ← h8]; exact mid_two HM.out.2.1 HM.out.1 (by rw [HJ.out]; exact h3) h2 (by rw [HJ.out]; exact h4)
       ·rw [size_len, h9]; have := HM.out.2.2; rw [size_len] at this; simp only [List.length_append, List.length_cons, List.length_nil]; omega
       ·rw [h9, List.all_append, HM.out.2.2.2]; decide)
      clear h1 h2 h3 h4 hm
      go_wp2
      go_roundw
      case rel => exact ⟨fl - 2, m, tx ++ s.extract j m, (by first | rfl | exact congrArg (Value.int .i64) hwn | (simp only [hwn])), rfl, ⟨by have := HI.out; have := HLT.out; have := HJ.out; have := HNX.out.1.1; have := HNX.out.1.2; omega⟩, ⟨HNX.out.2⟩, BK2, HB⟩
      case measure => (first | rw [hwn] | skip); have := HLT.out; have := HJ.out; have := HNX.out.1.2; have := HNX.out.1.1; show L.length - ((m : Nat) : Int).toNat < L.length - ((i : Nat) : Int).toNat; omega
     ·have e2 : (bt s (j : Int) == 34) = false := by rw [HB2.out]; simp only [beq_eq_false_iff_ne, ne_eq]; intro h_; exact h4 (UInt8.toNat_inj.1 (show (L.getD j 0).toNat = 34 by omega))
      have HST := Aside0.mk (mid_stop HM.out.2.1 HM.out.1 h1 h2 (fun h_ => h4 (by rw [← HJ.out]; exact h_.2)))
      have hz2_0 := (show wr.cell? ⟨b2, 0, none⟩ = some (.int .i64 0) from (blk_cell BK2.out 0).trans rfl)
      have hz2_1 := (show wr.cell? ⟨b2, 1, none⟩ = some (.string (⟨#[]⟩ : ByteArray)) from (blk_cell BK2.out 1).trans rfl)
      have hz2_2 := (show wr.cell? ⟨b2, 2, none⟩ = some (.int .i64 0) from (blk_cell BK2.out 2).trans rfl)
      have hf2_0 := blk_frozen BK2.out 0
      have hf2_1 := blk_frozen BK2.out 1
      have hf2_2 := blk_frozen BK2.out 2
      clear h1 h2
      by_cases hte : tx.data.toList = []
      ·have hz := str_nil hte
       have HQ := Aside0.mk (tup ((show quoF (betw 34 (L.drop 1)) = err 2 by rw [HST.out]; exact quo_empty hte).symm.trans HR.out))
       clear hte
       go_wp2
       refine bodyPost_ret (results_list (rs := [.cell 2 35, .tmp 3, .tmp 4, .tmp 5]) rfl (by simp) (.cell b2 35 #[.int .i64 0, .string (⟨#[]⟩ : ByteArray), .int .i64 0] (0, 0) _ rfl (put3 BK2.out) Tryz.underlying35 rfl (by kernel_rfl) (.tmp (.tmp (.tmp .nil))))) rfl ?_
       exact ⟨by obtain ⟨h1, h2, h3, h4, h5⟩ := HQ.out; rw [h1, h3, h4, h5, bytes_ext (b := (⟨#[]⟩ : ByteArray)) (h2.trans rfl)] <;> rfl, by repeat (first | (with_reducible first | exact HB.out | refine below_set ?_ GE2.out | refine below_set ?_ GE8.out) | exact HB.out)⟩
      ·have hz := str_cons hte
       have hna : ¬ (tx.data.toList.all isPr = false ∨ tx.data.toList = []) := fun h_ => by rcases h_ with h_ | h_; (rw [HM.out.2.2.2] at h_; cases h_); exact hte h_
       by_cases v : 30 < tx.size
       ·have g1 : decide ((30 : Int) < (tx.size : Int)) = true := decide_eq_true (by omega)
        have g1n : decide (30 < tx.size) = true := decide_eq_true v
        have HQ := Aside0.mk (tup ((show quoF (betw 34 (L.drop 1)) = err 5 by rw [HST.out]; exact quo_long hna v).symm.trans HR.out))
        clear hte hna v
        go_wp2
        refine bodyPost_ret (results_list (rs := [.cell 2 35, .tmp 3, .tmp 4, .tmp 5]) rfl (by simp) (.cell b2 35 #[.int .i64 0, .string (⟨#[]⟩ : ByteArray), .int .i64 0] (0, 0) _ rfl (put3 BK2.out) Tryz.underlying35 rfl (by kernel_rfl) (.tmp (.tmp (.tmp .nil))))) rfl ?_
        exact ⟨by obtain ⟨h1, h2, h3, h4, h5⟩ := HQ.out; rw [h1, h3, h4, h5, bytes_ext (b := (⟨#[]⟩ : ByteArray)) (h2.trans rfl)] <;> rfl, by repeat (first | (with_reducible first | exact HB.out | refine below_set ?_ GE2.out | refine below_set ?_ GE8.out) | exact HB.out)⟩
       ·have g1 : decide ((30 : Int) < (tx.size : Int)) = false := decide_eq_false (by omega)
        have g1n : decide (30 < tx.size) = false := decide_eq_false v
        have HQ := Aside0.mk (tup ((show quoF (betw 34 (L.drop 1)) = (2, tx.data.toList, (j : Int), 0, 0) by rw [HST.out, quo_ok hna v]; have := HJ.out; rw [← this]; rfl).symm.trans HR.out))
        clear hte hna v
        go_wp2
        refine bodyPost_ret (results_list (rs := [.cell 2 35, .tmp 3, .tmp 4, .tmp 5]) rfl (by simp) (.cell b2 35 #[.int .i64 2, .string tx, .int .i64 0] (0, 0) _ rfl (put3 BK2.out) Tryz.underlying35 rfl (by kernel_rfl) (.tmp (.tmp (.tmp .nil))))) rfl ?_
        exact ⟨by obtain ⟨h1, h2, h3, h4, h5⟩ := HQ.out; rw [h1, h3, ← hwi, h4, h5, bytes_ext (b := tx) (h2.trans rfl)] <;> rfl, by repeat (first | (with_reducible first | exact HB.out | refine below_set ?_ GE2.out | refine below_set ?_ GE8.out) | exact HB.out)⟩
    ·have gj : decide ((j : Int) < (s.size : Int)) = false := decide_eq_false (by have := HN.out; omega)
     have gjn : decide (j < s.size) = false := decide_eq_false (by have := HN.out; omega)
     have gjp : (j < s.size) = False := eq_false (by have := HN.out; omega)
     have HST := Aside0.mk (mid_stop HM.out.2.1 HM.out.1 h1 h2 (fun h_ => h3 (by rw [← HJ.out]; exact h_.1)))
     have hz2_0 := (show wr.cell? ⟨b2, 0, none⟩ = some (.int .i64 0) from (blk_cell BK2.out 0).trans rfl)
     have hz2_1 := (show wr.cell? ⟨b2, 1, none⟩ = some (.string (⟨#[]⟩ : ByteArray)) from (blk_cell BK2.out 1).trans rfl)
     have hz2_2 := (show wr.cell? ⟨b2, 2, none⟩ = some (.int .i64 0) from (blk_cell BK2.out 2).trans rfl)
     have hf2_0 := blk_frozen BK2.out 0
     have hf2_1 := blk_frozen BK2.out 1
     have hf2_2 := blk_frozen BK2.out 2
     clear h1 h2
     by_cases hte : tx.data.toList = []
     ·have hz := str_nil hte
      have HQ := Aside0.mk (tup ((show quoF (betw 34 (L.drop 1)) = err 2 by rw [HST.out]; exact quo_empty hte).symm.trans HR.out))
      clear hte
      go_wp2
      refine bodyPost_ret (results_list (rs := [.cell 2 35, .tmp 3, .tmp 4, .tmp 5]) rfl (by simp) (.cell b2 35 #[.int .i64 0, .string (⟨#[]⟩ : ByteArray), .int .i64 0] (0, 0) _ rfl (put3 BK2.out) Tryz.underlying35 rfl (by kernel_rfl) (.tmp (.tmp (.tmp .nil))))) rfl ?_
      exact ⟨by obtain ⟨h1, h2, h3, h4, h5⟩ := HQ.out; rw [h1, h3, h4, h5, bytes_ext (b := (⟨#[]⟩ : ByteArray)) (h2.trans rfl)] <;> rfl, by repeat (first | (with_reducible first | exact HB.out | refine below_set ?_ GE2.out | refine below_set ?_ GE8.out) | exact HB.out)⟩
     ·have hz := str_cons hte
      have hna : ¬ (tx.data.toList.all isPr = false ∨ tx.data.toList = []) := fun h_ => by rcases h_ with h_ | h_; (rw [HM.out.2.2.2] at h_; cases h_); exact hte h_
      by_cases v : 30 < tx.size
      ·have g1 : decide ((30 : Int) < (tx.size : Int)) = true := decide_eq_true (by omega)
       have g1n : decide (30 < tx.size) = true := decide_eq_true v
       have HQ := Aside0.mk (tup ((show quoF (betw 34 (L.drop 1)) = err 5 by rw [HST.out]; exact quo_long hna v).symm.trans HR.out))
       clear hte hna v
       go_wp2
       refine bodyPost_ret (results_list (rs := [.cell 2 35, .tmp 3, .tmp 4, .tmp 5]) rfl (by simp) (.cell b2 35 #[.int .i64 0, .string (⟨#[]⟩ : ByteArray), .int .i64 0] (0, 0) _ rfl (put3 BK2.out) Tryz.underlying35 rfl (by kernel_rfl) (.tmp (.tmp (.tmp .nil))))) rfl ?_
       exact ⟨by obtain ⟨h1, h2, h3, h4, h5⟩ := HQ.out; rw [h1, h3, h4, h5, bytes_ext (b := (⟨#[]⟩ : ByteArray)) (h2.trans rfl)] <;> rfl, by repeat (first | (with_reducible first | exact HB.out | refine below_set ?_ GE2.out | refine below_set ?_ GE8.out) | exact HB.out)⟩
      ·have g1 : decide ((30 : Int) < (tx.size : Int)) = false := decide_eq_false (by omega)
       have g1n : decide (30 < tx.size) = false := decide_eq_false v
       have HQ := Aside0.mk (tup ((show quoF (betw 34 (L.drop 1)) = (2, tx.data.toList, (j : Int), 0, 0) by rw [HST.out, quo_ok hna v]; have := HJ.out; rw [← this]; rfl).symm.trans HR.out))
       clear hte hna v
       go_wp2
       refine bodyPost_ret (results_list (rs := [.cell 2 35, .tmp 3, .tmp 4, .tmp 5]) rfl (by simp) (.cell b2 35 #[.int .i64 2, .string tx, .int .i64 0] (0, 0) _ rfl (put3 BK2.out) Tryz.underlying35 rfl (by kernel_rfl) (.tmp (.tmp (.tmp .nil))))) rfl ?_
       exact ⟨by obtain ⟨h1, h2, h3, h4, h5⟩ := HQ.out; rw [h1, h3, ← hwi, h4, h5, bytes_ext (b := tx) (h2.trans rfl)] <;> rfl, by repeat (first | (with_reducible first | exact HB.out | refine below_set ?_ GE2.out | refine below_set ?_ GE8.out) | exact HB.out)⟩
   ·have e1 : (bt s (i : Int) == 34) = false := by rw [HB1.out]; simp only [beq_eq_false_iff_ne, ne_eq]; intro h_; exact h2 (UInt8.toNat_inj.1 (show (L.getD i 0).toNat = 34 by omega))
    have hz2_0 := (show wr.cell? ⟨b2, 0, none⟩ = some (.int .i64 0) from (blk_cell BK2.out 0).trans rfl)
    have hz2_1 := (show wr.cell? ⟨b2, 1, none⟩ = some (.string (⟨#[]⟩ : ByteArray)) from (blk_cell BK2.out 1).trans rfl)
    have hz2_2 := (show wr.cell? ⟨b2, 2, none⟩ = some (.int .i64 0) from (blk_cell BK2.out 2).trans rfl)
    have hf2_0 := blk_frozen BK2.out 0
    have hf2_1 := blk_frozen BK2.out 1
    have hf2_2 := blk_frozen BK2.out 2
    by_cases hlo : (L.getD i 0).toNat < 32
    ·have hp : isPr (L.getD i 0) = false := decide_eq_false (by omega)
     have w1 : decide (bt s (i : Int) < 32) = true := decide_eq_true (by rw [HB1.out]; omega)
     clear hlo
     have HQ := Aside0.mk (tup ((mid_bad (mid_other HM.out.2.1 HM.out.1 h1 h2) ⟨L.getD i 0, List.mem_append_right _ List.mem_cons_self, hp⟩).symm.trans HR.out))
     clear h1 h2 hp
     go_wp2
     refine bodyPost_ret (results_list (rs := [.cell 2 35, .tmp 3, .tmp 4, .tmp 5]) rfl (by simp) (.cell b2 35 #[.int .i64 0, .string (⟨#[]⟩ : ByteArray), .int .i64 0] (0, 0) _ rfl (put3 BK2.out) Tryz.underlying35 rfl (by kernel_rfl) (.tmp (.tmp (.tmp .nil))))) rfl ?_
     exact ⟨by obtain ⟨h1, h2, h3, h4, h5⟩ := HQ.out; rw [h1, h3, h4, h5, bytes_ext (b := (⟨#[]⟩ : ByteArray)) (h2.trans rfl)] <;> rfl, by repeat (first | (with_reducible first | exact HB.out | refine below_set ?_ GE2.out | refine below_set ?_ GE8.out) | exact HB.out)⟩
    ·have w1 : decide (bt s (i : Int) < 32) = false := decide_eq_false (by rw [HB1.out]; omega)
     by_cases hhi : 126 < (L.getD i 0).toNat
     ·have hp : isPr (L.getD i 0) = false := decide_eq_false (by omega)
      have w2 : decide (126 < bt s (i : Int)) = true := decide_eq_true (by rw [HB1.out]; omega)
      clear hlo hhi
      have HQ := Aside0.mk (tup ((mid_bad (mid_other HM.out.2.1 HM.out.1 h1 h2) ⟨L.getD i 0, List.mem_append_right _ List.mem_cons_self, hp⟩).symm.trans HR.out))
      clear h1 h2 hp
      go_wp2
      refine bodyPost_ret (results_list (rs := [.cell 2 35, .tmp 3, .tmp 4, .tmp 5]) rfl (by simp) (.cell b2 35 #[.int .i64 0, .string (⟨#[]⟩ : ByteArray), .int .i64 0] (0, 0) _ rfl (put3 BK2.out) Tryz.underlying35 rfl (by kernel_rfl) (.tmp (.tmp (.tmp .nil))))) rfl ?_
      exact ⟨by obtain ⟨h1, h2, h3, h4, h5⟩ := HQ.out; rw [h1, h3, h4, h5, bytes_ext (b := (⟨#[]⟩ : ByteArray)) (h2.trans rfl)] <;> rfl, by repeat (first | (with_reducible first | exact HB.out | refine below_set ?_ GE2.out | refine below_set ?_ GE8.out) | exact HB.out)⟩
     ·have hp : isPr (L.getD i 0) = true := decide_eq_true (by omega)
      have w2 : decide (126 < bt s (i : Int)) = false := decide_eq_false (by rw [HB1.out]; omega)
      clear hlo hhi
      have hwn := (show wrap64 ((i : Int) + 1) = (j : Int) by have := HN.out; have := HS.out; have := HI.out; have := HJ.out; unfold wrap64; omega)
      have ra : ((i : Int) ≤ (j : Int)) = True := eq_true (by have := HJ.out; omega)
      have rb : ((j : Int) ≤ (s.size : Int)) = True := eq_true (by have := HN.out; have := HJ.out; omega)
      have ran : (i ≤ j) = True := eq_true (by have := HJ.out; omega)
      have rbn : (j ≤ s.size) = True := eq_true (by have := HN.out; have := HJ.out; omega)
      have hcat : (9223372036854775807 < tx.size + (j - i)) = False := eq_false (by have := HN.out; have := HS.out; have := HI.out; have := HJ.out; have := HM.out.2.2; omega)
      have hcat2 : decide (9223372036854775807 < tx.size + (j - i)) = false := decide_eq_false (by rw [hcat]; exact fun h_ => h_)
      have HNX := Aside0.mk (show (j ≤ L.length ∧ i + 1 = j) ∧ (1 ≤ j ∧ Mid 34 L j (tx ++ s.extract i j).data.toList ∧ (tx ++ s.extract i j).size ≤ j ∧ (tx ++ s.extract i j).data.toList.all isPr = true) by
       have h9 : (tx ++ s.extract i j).data.toList = tx.data.toList ++ [L.getD i 0] := by rw [← HJ.out, one_data s L HL.out tx i h1]
       refine ⟨⟨by have := HJ.out; omega, HJ.out⟩, by have := HJ.out; omega, ?_, ?_, ?_⟩
       ·rw [h9, ← HJ.out]; exact mid_other HM.out.2.1 HM.out.1 h1 h2
       ·rw [size_len, h9]; have := HM.out.2.2; rw [size_len] at this; have := HJ.out; simp only [List.length_append, List.length_cons, List.length_nil]; omega
       ·rw [h9, List.all_append, HM.out.2.2.2, Bool.true_and]; show (isPr (L.getD i 0) && true) = true; rw [hp]; rfl)
      clear h1 h2
      go_wp2
      go_roundw
      case rel => exact ⟨fl - 1, j, tx ++ s.extract i j, (by first | rfl | exact congrArg (Value.int .i64) hwn | (simp only [hwn])), rfl, ⟨by have := HI.out; have := HLT.out; have := HJ.out; have := HNX.out.1.1; have := HNX.out.1.2; omega⟩, ⟨HNX.out.2⟩, BK2, HB⟩
      case measure => (first | rw [hwn] | skip); have := HLT.out; have := HJ.out; have := HNX.out.1.2; have := HNX.out.1.1; show L.length - ((j : Nat) : Int).toNat < L.length - ((i : Nat) : Int).toNat; omega
  ·have hlt : decide ((i : Int) < (s.size : Int)) = false := decide_eq_false (by have := HN.out; omega)
   have hltn : decide (i < s.size) = false := decide_eq_false (by have := HN.out; omega)
   have hltp : (i < s.size) = False := eq_false (by have := HN.out; omega)
   have HIS := Aside0.mk (show i = s.size by have := HN.out; have := HI.out; omega)
   have ne0 : ((i : Int) == (s.size : Int)) = true := by rw [HIS.out]; simp
   have ne0n : (i == s.size) = true := by rw [HIS.out]; simp
   have ne0p : (i = s.size) = True := eq_true HIS.out
   have HQ := Aside0.mk (tup ((show quoF (betw 34 (L.drop 1)) = err 2 by rw [mid_end HM.out.2.1 (by omega)]; rfl).symm.trans HR.out))
   have hz2_0 := (show wr.cell? ⟨b2, 0, none⟩ = some (.int .i64 0) from (blk_cell BK2.out 0).trans rfl)
   have hz2_1 := (show wr.cell? ⟨b2, 1, none⟩ = some (.string (⟨#[]⟩ : ByteArray)) from (blk_cell BK2.out 1).trans rfl)
   have hz2_2 := (show wr.cell? ⟨b2, 2, none⟩ = some (.int .i64 0) from (blk_cell BK2.out 2).trans rfl)
   have hf2_0 := blk_frozen BK2.out 0
   have hf2_1 := blk_frozen BK2.out 1
   have hf2_2 := blk_frozen BK2.out 2
   go_wp2
   refine bodyPost_ret (results_list (rs := [.cell 2 35, .tmp 3, .tmp 4, .tmp 5]) rfl (by simp) (.cell b2 35 #[.int .i64 0, .string (⟨#[]⟩ : ByteArray), .int .i64 0] (0, 0) _ rfl (put3 BK2.out) Tryz.underlying35 rfl (by kernel_rfl) (.tmp (.tmp (.tmp .nil))))) rfl ?_
   exact ⟨by obtain ⟨h1, h2, h3, h4, h5⟩ := HQ.out; rw [h1, h3, h4, h5, bytes_ext (b := (⟨#[]⟩ : ByteArray)) (h2.trans rfl)] <;> rfl, by repeat (first | (with_reducible first | exact HB.out | refine below_set ?_ GE2.out | refine below_set ?_ GE8.out) | exact HB.out)⟩
end Go.Proofs.YtackifpnpkbddaaGreatDoorScan
