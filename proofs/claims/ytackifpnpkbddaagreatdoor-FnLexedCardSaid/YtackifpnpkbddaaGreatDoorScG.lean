/- Proved: what impl.scan answers at any other byte: a sign, or none. -/
import Derived.Test.YtackifpnpkbddaaGreatDoorScW
namespace Go.Proofs.YtackifpnpkbddaaGreatDoorScan
open Go Go.RowKit Go.Proofs.YtackifpnpkbddaaGreatDoorW.PrintWords Go.Proofs.YtackifpnpkbddaaGreatDoorW.PrintLast Go.Proofs.YtackifpnpkbddaaGreatDoorW.PrintMore Go.Proofs.YtackifpnpkbddaaGreatDoor.QScan
set_option linter.unusedVariables false
set_option linter.unusedSimpArgs false
theorem prefix_f (s x : ByteArray) : strings_HasPrefix.f s x = some (Lib.hasPrefix s.data.toList x.data.toList) := by
 unfold strings_HasPrefix.f stringslite_HasPrefix.f
 rw [← Lib.hasPrefix_of_take]
 by_cases h : x.size ≤ s.size
 ·rw [if_pos (by omega), if_pos (by omega), if_pos (by omega), ByteArray.toList_eq, ByteArray.toList_eq, Int.toNat_natCast, take_data]
  show some _ = some _
  rw [decide_eq_true (show x.data.toList.length ≤ s.data.toList.length from h), Bool.true_and]
  rfl
 ·rw [if_neg (by omega), decide_eq_false (show ¬ x.data.toList.length ≤ s.data.toList.length from h)]
  rfl
theorem sgn_data : ∀ j, (signL.getD j ⟨#[]⟩).data.toList = signB.getD j [] := fun j => by
 by_cases h : j < 18
 ·match j, h with
  | 0, _ | 1, _ | 2, _ | 3, _ | 4, _ | 5, _ | 6, _ | 7, _ | 8, _ | 9, _ | 10, _ | 11, _ | 12, _ | 13, _ | 14, _ | 15, _ | 16, _ | 17, _ => rfl
  | j + 18, h => exact absurd h (by omega)
 ·rw [show signL.getD j ⟨#[]⟩ = ⟨#[]⟩ by simp [List.getD, List.getElem?_eq_none (show signL.length ≤ j from Nat.le_of_not_lt h)], show signB.getD j [] = [] by simp [List.getD, List.getElem?_eq_none (show signB.length ≤ j from Nat.le_of_not_lt h)]]
theorem sgn_at (j : Nat) (h : j < 18) : signL[j]? = some (signL.getD j ⟨#[]⟩) := by simp [List.getD, show j < signL.length from h]
theorem drop_consB (l : List B) (i : Nat) (h : i < l.length) : l.drop i = l.getD i [] :: l.drop (i + 1) := by
 rw [List.drop_eq_getElem_cons h]
 simp [List.getD, h]
theorem sgnF_step {l : B} {i : Nat} (h : i < 18) (hp : Lib.hasPrefix l (signB.getD i []) = false) : sgnF (signB.drop i) l = sgnF (signB.drop (i + 1)) l := by
 rw [drop_consB signB i h, sgnF, if_neg (by rw [hp]; simp)]
theorem sgnF_stop {l : B} {i : Nat} (h : i < 18) (hp : Lib.hasPrefix l (signB.getD i []) = true) : sgnF (signB.drop i) l = some (signB.getD i []) := by
 rw [drop_consB signB i h, sgnF, if_pos hp]
theorem sgn_ne : ∀ j, j ≠ 3 → signB.getD j [] ≠ [33, 61] := fun j h3 => by
 by_cases h : j < 18
 ·match j, h, h3 with
  | 0, _, _ | 1, _, _ | 2, _, _ | 4, _, _ | 5, _, _ | 6, _, _ | 7, _, _ | 8, _, _ | 9, _, _ | 10, _, _ | 11, _, _ | 12, _, _ | 13, _, _ | 14, _, _ | 15, _, _ | 16, _, _ | 17, _, _ => decide
  | j + 18, h, _ => exact absurd h (by omega)
 ·rw [show signB.getD j [] = [] by simp [List.getD, List.getElem?_eq_none (show signB.length ≤ j from Nat.le_of_not_lt h)]]; decide
theorem prefix_at (s x : ByteArray) (L xb : B) (hL : s.data.toList = L) (hx : x.data.toList = xb) (b : Bool) (h : Lib.hasPrefix L xb = b) (w : World) : Calls Tryz.prog 24 #[.string s, .string x] w fun e w' => e = .returned (.bool b) ∧ Below w.heap.size w w' := by
 subst hL hx
 exact (strings_HasPrefix.calls s x b w (by rw [prefix_f, h])).mono fun e w' ⟨h1, nd, h2⟩ => ⟨h1, by rw [h2]; exact (by with_reducible apply pw_below_drewN; exact Below.refl _ _)⟩
set_option maxHeartbeats 8000000 in
set_option maxRecDepth 100000 in
theorem scan12_sign (s : ByteArray) (hs : s.size ≤ 4194304) (h0 : 0 < s.size) (hc : isLet (s.data.toList.getD 0 0) = false) (hc2 : s.data.toList.getD 0 0 ≠ 34) (hc1 : isDig (s.data.toList.getD 0 0) = false) (hc3 : s.data.toList.getD 0 0 ≠ 39) (k n c a : Int) (t : ByteArray) (hr : sgnR (sgnF signB s.data.toList) = (k, t.data.toList, n, c, a)) (w : World) (hT : Tabs w) :
  Calls Tryz.prog 25 #[.string s] w fun e w' => e = .returned (.tuple #[.agg #[.int .i64 k, .string t, .int .i64 0], .int .i64 n, .int .i64 c, .int .i64 a]) ∧ Below w.heap.size w w' := by
 have hu := Tryz.underlying35
 have HT := Aside0.mk hT
 have HS := Aside0.mk hs
 have HZ := Aside0.mk h0
 obtain ⟨L, hL⟩ : ∃ L, s.data.toList = L := ⟨_, rfl⟩
 have HL := Aside0.mk hL
 have HN := Aside0.mk (show s.size = L.length by rw [← hL]; rfl)
 rw [hL] at hr hc hc1 hc2 hc3
 have HR := Aside0.mk hr
 obtain ⟨x0, hx0⟩ : ∃ x0 : Int, ((L.getD 0 0).toNat : Int) = x0 := ⟨_, rfl⟩
 have HX := Aside0.mk hx0
 have hx : ∀ h : 0 < s.size, ((s[0]'h).toNat : Int) = x0 := fun h => by rw [← hx0, ← hL]; have := bt_nat s 0 h; rw [this, bt_get s 0 h]
 have p0 : ((0 : Int) < (s.size : Int)) = True := eq_true (by omega)
 have p0n : (0 < s.size) = True := eq_true h0
 have HC0 := Aside0.mk hc
 have HC1 := Aside0.mk hc1
 have e34 : (x0 == 34) = false := by rw [← hx0]; simp only [beq_eq_false_iff_ne, ne_eq]; intro h_; exact hc2 (UInt8.toNat_inj.1 (show (L.getD 0 0).toNat = 34 by omega))
 have e39 : (x0 == 39) = false := by rw [← hx0]; simp only [beq_eq_false_iff_ne, ne_eq]; intro h_; exact hc3 (UInt8.toNat_inj.1 (show (L.getD 0 0).toNat = 39 by omega))
 clear hc hc1 hc2 hc3
 clear hT hr hs hL hx0 h0
 have HB := Aside0.mk (Below.refl w.heap.size w)
 have tokl : True := trivial
 have tokg : True := trivial
 go_enter Tryz.func25, Tryz.ntmps25
 obtain ⟨gb, go_, gc, hg1, hg2⟩ := HT.out.sgn
 have HG1 := Aside0.mk hg1
 have HG2 := Aside0.mk hg2
 clear hg1 hg2
 go_wp2_with (first | ((with_reducible refine gate_dst (N := 2) rfl ?_); refine box_event ?hg (N := 2) ?hd (cs := #[.int .i64 0, .string (⟨#[]⟩ : ByteArray), .int .i64 0]) (t := 35) ?hr ?_; (case hd => rfl); (case hg => rfl); (case hr => first | (go_simp; done) | (go_simp; rfl)); intro b2 hg w2 hbox hb; have GE2 := Aside0.mk (show w.heap.size ≤ b2 by rw [hg]; exact below_size HB.out); replace HB := Aside0.mk (below_step HB.out hb); skip; have BK2 := Aside0.mk hbox; clear hbox hg hb) | (go_at_call 32; have t_ := tokl; clear t_; (with_reducible refine (letter0 L x0 HX.out false HC0.out _).mono ?_); rintro en w25 ⟨rfl, hb⟩; replace HB := Aside0.mk (below_step HB.out hb); replace BK2 := Aside0.mk (blk_below BK2.out hb); clear hb tokl) | (go_at_call 33; have t_ := tokg; clear t_; (with_reducible refine (digit0 L x0 HX.out false HC1.out _).mono ?_); rintro en w26 ⟨rfl, hb⟩; replace HB := Aside0.mk (below_step HB.out hb); replace BK2 := Aside0.mk (blk_below BK2.out hb); clear hb tokg; have hgl := cell_kept HB.out HG1.out))
 clear hx p0 p0n
 go_loopw [170] (fun v w' => ∃ (fl i : Nat), v = .int .i64 (i : Int) ∧ Aside0 (i + fl = 18) ∧ Aside0 (sgnF signB L = sgnF (signB.drop i) L) ∧ Aside0 (w'.heap[b2]? = some (.cells #[.int .i64 0, .string (⟨#[]⟩ : ByteArray), .int .i64 0] 35 (0, 0))) ∧ Aside0 (Below w.heap.size w w')) (fun v _ => 18 - (intOf v).toNat)
 case atStart => exact ⟨18, 0, rfl, ⟨rfl⟩, ⟨rfl⟩, BK2, HB⟩
 case round =>
  clear HB BK2
  obtain ⟨fl, i, rfl, HI, HC, BK2, HB⟩ := hrel
  have tok11 : True := trivial
  by_cases h1 : i < 18
  ·have hlt : decide ((i : Int) < (18 : Int)) = true := decide_eq_true (by omega)
   have hltn : decide (i < 18) = true := decide_eq_true (by omega)
   have q0 : ((i : Int) < (18 : Int)) = True := eq_true (by omega)
   have p1 : ((0 : Int) ≤ (i : Int)) = True := eq_true (by omega)
   have q0n : (i < 18) = True := eq_true h1
   have HLT := Aside0.mk h1
   obtain ⟨x, hxx⟩ : ∃ x, signL.getD i ⟨#[]⟩ = x := ⟨_, rfl⟩
   obtain ⟨xb, hxb⟩ : ∃ xb, signB.getD i [] = xb := ⟨_, rfl⟩
   have HXB := Aside0.mk (show x.data.toList = xb by rw [← hxx, ← hxb, sgn_data])
   have hy := cell_kept HB.out (HG2.out i x (by rw [← hxx]; exact sgn_at i h1))
   have HW := Aside0.mk (show wrap64 ((i : Int) + 1) = ((i + 1 : Nat) : Int) by unfold wrap64; omega)
   have hxl : x.size = xb.length := by rw [size_len, HXB.out]
   rcases Bool.eq_false_or_eq_true (Lib.hasPrefix L xb) with h2 | h2
   ·have HP := Aside0.mk h2
    have HSG := Aside0.mk (show sgnF signB L = some xb by rw [HC.out, sgnF_stop h1 (by rw [hxb]; exact h2), hxb])
    by_cases h3 : i = 3
    ·have hxi : x = ⟨#[33, 61]⟩ := by rw [← hxx, h3]; rfl
     have hxbi : xb = [33, 61] := by rw [← hxb, h3]; rfl
     have HQ := Aside0.mk (tup ((show sgnR (sgnF signB L) = (6, [60, 62], 2, 0, 0) by rw [HSG.out, hxbi]; rfl).symm.trans HR.out))
     clear h1 h2 h3 hxx hxb
     subst hxi
     go_wp2_with (first | (go_at_call 24; (have t_ := tok11; clear t_; (with_reducible refine (prefix_at s _ L xb HL.out HXB.out true HP.out _).mono ?_); rintro en w11 ⟨rfl, hb⟩; replace HB := Aside0.mk (below_step HB.out hb); replace BK2 := Aside0.mk (blk_below BK2.out hb); clear hb tok11; obtain ⟨hz2_0, hz2_1, hz2_2, hf2_0, hf2_1, hf2_2⟩ := row3 BK2.out)) | ((with_reducible refine gate_dst (N := 12) rfl ?_); refine box_event ?hg (N := 12) ?hd (cs := #[.int .i64 0, .string (⟨#[]⟩ : ByteArray), .int .i64 0]) (t := 35) ?hr ?_; (case hd => rfl); (case hg => rfl); (case hr => first | (go_simp; done) | (go_simp; rfl)); intro b12 hg w12 hbox hb; have GE12 := Aside0.mk (show w.heap.size ≤ b12 by rw [hg]; exact below_size HB.out); replace HB := Aside0.mk (below_step HB.out hb); skip; have NE12_0 := Aside0.mk (show b2 ≠ b12 by rw [hg]; exact Nat.ne_of_lt (blk_lt BK2.out)); have BK12 := Aside0.mk hbox; clear hbox hg; have hz0 := (show w12.cell? ⟨b12, 0, none⟩ = some (.int .i64 0) from (blk_cell BK12.out 0).trans rfl); have hf0 := blk_frozen BK12.out 0; have hz1 := (show w12.cell? ⟨b12, 1, none⟩ = some (.string (⟨#[]⟩ : ByteArray)) from (blk_cell BK12.out 1).trans rfl); have hf1 := blk_frozen BK12.out 1; have hz2 := (show w12.cell? ⟨b12, 2, none⟩ = some (.int .i64 0) from (blk_cell BK12.out 2).trans rfl); have hf2 := blk_frozen BK12.out 2; have k_ := Aside0.mk (blk_below BK2.out hb); clear BK2; have BK2 := k_; clear k_; skip; clear hb) | ((with_reducible refine gate_store (t := 35) (p := 12) rfl ?_); refine store_event (t := 35) (p := 12) (v := ?vo_12) (w1 := (((w12.setCell ⟨b12, 0, none⟩ (.int .i64 6)).setCell ⟨b12, 1, none⟩ (.string (⟨#[33, 61]⟩ : ByteArray))).setCell ⟨b12, 2, none⟩ (.int .i64 0))) ?hg ?ho ?hn ?hr ?_; (case ho => rfl); (case hg => rfl); (case hn => rfl); (case hr => first | (go_simp; done) | (go_simp; rfl)); intro w7 hw; have n0_ : Aside0 (Below w.heap.size w w7) := ⟨by rw [hw]; exact (below_set (below_set (below_set HB.out GE12.out) GE12.out) GE12.out)⟩; have n1_ : Aside0 (w7.heap[b12]? = some (.cells #[.int .i64 6, .string (⟨#[33, 61]⟩ : ByteArray), .int .i64 0] 35 (0, 0))) := ⟨by rw [hw]; exact (blk_list (blk_list (blk_list BK12.out 0 _) 1 _) 2 _)⟩; have kk0_ : Aside0 (w7.heap[b2]? = some (.cells #[.int .i64 0, .string (⟨#[]⟩ : ByteArray), .int .i64 0] 35 (0, 0))) := ⟨by rw [hw]; exact (blk_far (p := ⟨b12, 2, none⟩) (blk_far (p := ⟨b12, 1, none⟩) (blk_far (p := ⟨b12, 0, none⟩) BK2.out NE12_0.out _) NE12_0.out _) NE12_0.out _)⟩; clear HB BK12 BK2 hw hz0 hf0 hz1 hf1 hz2 hf2; have HB := n0_; have BK12 := n1_; clear n0_ n1_; have BK2 := kk0_; clear kk0_; obtain ⟨hk12_0, hk12_1, hk12_2, -⟩ := row3 BK12.out; obtain ⟨hz2_0, hz2_1, hz2_2, hf2_0, hf2_1, hf2_2⟩ := row3 BK2.out; have hf12_0 := blk_frozen BK12.out 0; have hf12_1 := blk_frozen BK12.out 1; have hf12_2 := blk_frozen BK12.out 2) | ((with_reducible refine gate_store (t := 9) (p := 181) rfl ?_); refine store_event (t := 9) (p := 181) (v := ?vo_9) (w1 := w7.setCell ⟨b12, 1, none⟩ (.string (⟨#[60, 62]⟩ : ByteArray))) ?hg ?ho ?hn ?hr ?_; (case ho => rfl); (case hg => rfl); (case hn => rfl); (case hr => first | (go_simp; done) | (go_simp; rfl)); intro w9 hw; (have n0_ : Aside0 (Below w.heap.size w w9) := ⟨by rw [hw]; exact (below_set HB.out GE12.out)⟩; have n1_ : Aside0 (w9.heap[b12]? = some (.cells #[.int .i64 6, .string (⟨#[60, 62]⟩ : ByteArray), .int .i64 0] 35 (0, 0))) := ⟨by rw [hw]; exact (blk_list BK12.out 1 _)⟩; have n2_ : Aside0 (w9.heap[b2]? = some (.cells #[.int .i64 0, .string (⟨#[]⟩ : ByteArray), .int .i64 0] 35 (0, 0))) := ⟨by rw [hw]; exact (blk_far (p := ⟨b12, 1, none⟩) BK2.out NE12_0.out _)⟩; clear HB BK2 BK12 hw; have HB := n0_; have BK12 := n1_; have BK2 := n2_; clear n0_ n1_ n2_; obtain ⟨hz2_0, hz2_1, hz2_2, hf2_0, hf2_1, hf2_2⟩ := row3 BK2.out; have hk12a := (show w9.cell? ⟨b12, 0, none⟩ = some (.int .i64 6) from (blk_cell BK12.out 0).trans rfl); have hk12b := (show w9.cell? ⟨b12, 1, none⟩ = some (.string (⟨#[60, 62]⟩ : ByteArray)) from (blk_cell BK12.out 1).trans rfl); have hk12c := (show w9.cell? ⟨b12, 2, none⟩ = some (.int .i64 0) from (blk_cell BK12.out 2).trans rfl))))
     refine bodyPost_ret (results_list (rs := [.cell 2 35, .tmp 3, .tmp 4, .tmp 5]) rfl (by simp) (.cell b2 35 #[.int .i64 6, .string (⟨#[60, 62]⟩ : ByteArray), .int .i64 0] (0, 0) _ rfl (put3 BK2.out) Tryz.underlying35 rfl (by kernel_rfl) (.tmp (.tmp (.tmp .nil))))) rfl ?_
     exact ⟨by obtain ⟨h1, h2, h3, h4, h5⟩ := HQ.out; rw [h1, h3, h4, h5, bytes_ext (b := (⟨#[60, 62]⟩ : ByteArray)) (h2.trans rfl)] <;> rfl, by repeat (first | (with_reducible first | exact HB.out | refine below_set ?_ GE2.out | refine below_set ?_ GE8.out) | exact HB.out)⟩
    ·have hne : (x.toList == ([33, 61] : List UInt8)) = false := by
      rw [ByteArray.toList_eq, HXB.out, ← hxb]
      simp only [beq_eq_false_iff_ne, ne_eq]
      exact sgn_ne i h3
     have HQ := Aside0.mk (tup ((show sgnR (sgnF signB L) = (6, xb, (xb.length : Int), 0, 0) by rw [HSG.out]; show (6, (if xb = [33, 61] then _ else xb), _, _, _) = _; rw [if_neg (by rw [← hxb]; exact sgn_ne i h3)]).symm.trans HR.out))
     clear h1 h2 h3 hxx hxb
     go_wp2_with (first | (go_at_call 24; (have t_ := tok11; clear t_; (with_reducible refine (prefix_at s x L xb HL.out HXB.out true HP.out _).mono ?_); rintro en w11 ⟨rfl, hb⟩; replace HB := Aside0.mk (below_step HB.out hb); replace BK2 := Aside0.mk (blk_below BK2.out hb); clear hb tok11; obtain ⟨hz2_0, hz2_1, hz2_2, hf2_0, hf2_1, hf2_2⟩ := row3 BK2.out)) | ((with_reducible refine gate_dst (N := 12) rfl ?_); refine box_event ?hg (N := 12) ?hd (cs := #[.int .i64 0, .string (⟨#[]⟩ : ByteArray), .int .i64 0]) (t := 35) ?hr ?_; (case hd => rfl); (case hg => rfl); (case hr => first | (go_simp; done) | (go_simp; rfl)); intro b12 hg w12 hbox hb; have GE12 := Aside0.mk (show w.heap.size ≤ b12 by rw [hg]; exact below_size HB.out); replace HB := Aside0.mk (below_step HB.out hb); skip; have NE12_0 := Aside0.mk (show b2 ≠ b12 by rw [hg]; exact Nat.ne_of_lt (blk_lt BK2.out)); have BK12 := Aside0.mk hbox; clear hbox hg; have hz0 := (show w12.cell? ⟨b12, 0, none⟩ = some (.int .i64 0) from (blk_cell BK12.out 0).trans rfl); have hf0 := blk_frozen BK12.out 0; have hz1 := (show w12.cell? ⟨b12, 1, none⟩ = some (.string (⟨#[]⟩ : ByteArray)) from (blk_cell BK12.out 1).trans rfl); have hf1 := blk_frozen BK12.out 1; have hz2 := (show w12.cell? ⟨b12, 2, none⟩ = some (.int .i64 0) from (blk_cell BK12.out 2).trans rfl); have hf2 := blk_frozen BK12.out 2; have k_ := Aside0.mk (blk_below BK2.out hb); clear BK2; have BK2 := k_; clear k_; skip; clear hb) | ((with_reducible refine gate_store (t := 35) (p := 12) rfl ?_); refine store_event (t := 35) (p := 12) (v := ?vo_12) (w1 := (((w12.setCell ⟨b12, 0, none⟩ (.int .i64 6)).setCell ⟨b12, 1, none⟩ (.string x)).setCell ⟨b12, 2, none⟩ (.int .i64 0))) ?hg ?ho ?hn ?hr ?_; (case ho => rfl); (case hg => rfl); (case hn => rfl); (case hr => first | (go_simp; done) | (go_simp; rfl)); intro w7 hw; have n0_ : Aside0 (Below w.heap.size w w7) := ⟨by rw [hw]; exact (below_set (below_set (below_set HB.out GE12.out) GE12.out) GE12.out)⟩; have n1_ : Aside0 (w7.heap[b12]? = some (.cells #[.int .i64 6, .string x, .int .i64 0] 35 (0, 0))) := ⟨by rw [hw]; exact (blk_list (blk_list (blk_list BK12.out 0 _) 1 _) 2 _)⟩; have kk0_ : Aside0 (w7.heap[b2]? = some (.cells #[.int .i64 0, .string (⟨#[]⟩ : ByteArray), .int .i64 0] 35 (0, 0))) := ⟨by rw [hw]; exact (blk_far (p := ⟨b12, 2, none⟩) (blk_far (p := ⟨b12, 1, none⟩) (blk_far (p := ⟨b12, 0, none⟩) BK2.out NE12_0.out _) NE12_0.out _) NE12_0.out _)⟩; clear HB BK12 BK2 hw hz0 hf0 hz1 hf1 hz2 hf2; have HB := n0_; have BK12 := n1_; clear n0_ n1_; have BK2 := kk0_; clear kk0_; obtain ⟨hk12_0, hk12_1, hk12_2, -⟩ := row3 BK12.out; obtain ⟨hz2_0, hz2_1, hz2_2, hf2_0, hf2_1, hf2_2⟩ := row3 BK2.out; have hf12_0 := blk_frozen BK12.out 0; have hf12_1 := blk_frozen BK12.out 1; have hf12_2 := blk_frozen BK12.out 2))
     refine bodyPost_ret (results_list (rs := [.cell 2 35, .tmp 3, .tmp 4, .tmp 5]) rfl (by simp) (.cell b2 35 #[.int .i64 6, .string x, .int .i64 0] (0, 0) _ rfl (put3 BK2.out) Tryz.underlying35 rfl (by kernel_rfl) (.tmp (.tmp (.tmp .nil))))) rfl ?_
     exact ⟨by obtain ⟨h1, h2, h3, h4, h5⟩ := HQ.out; rw [h1, h3, ← hxl, h4, h5, bytes_ext (b := x) (h2.trans HXB.out.symm)] <;> rfl, by repeat (first | (with_reducible first | exact HB.out | refine below_set ?_ GE2.out | refine below_set ?_ GE8.out) | exact HB.out)⟩
   ·have HP := Aside0.mk h2
    have HC2 := Aside0.mk (show sgnF signB L = sgnF (signB.drop (i + 1)) L by rw [HC.out]; exact sgnF_step h1 (by rw [hxb]; exact h2))
    clear h1 h2 hxx hxb
    go_wp2_with (first | (go_at_call 24; (have t_ := tok11; clear t_; (with_reducible refine (prefix_at s x L xb HL.out HXB.out false HP.out _).mono ?_); rintro en w11 ⟨rfl, hb⟩; replace HB := Aside0.mk (below_step HB.out hb); replace BK2 := Aside0.mk (blk_below BK2.out hb); clear hb tok11; obtain ⟨hz2_0, hz2_1, hz2_2, hf2_0, hf2_1, hf2_2⟩ := row3 BK2.out)))
    go_roundw
    case rel => exact ⟨fl - 1, i + 1, (by first | exact congrArg (Value.int .i64) HW.out | go_num), ⟨by have := HI.out; have := HLT.out; omega⟩, HC2, BK2, HB⟩
    case measure => rw [HW.out]; have := HLT.out; show 18 - ((i + 1 : Nat) : Int).toNat < 18 - ((i : Nat) : Int).toNat; omega
  ·have hlt : decide ((i : Int) < (18 : Int)) = false := decide_eq_false (by omega)
   have hltn : decide (i < 18) = false := decide_eq_false h1
   have q0n : (i < 18) = False := eq_false h1
   have HQ := Aside0.mk (tup ((show sgnR (sgnF signB L) = err 2 by rw [HC.out, List.drop_eq_nil_of_le (show signB.length ≤ i from Nat.le_of_not_lt h1)]; rfl).symm.trans HR.out))
   have hz2_0 := (show wr.cell? ⟨b2, 0, none⟩ = some (.int .i64 0) from (blk_cell BK2.out 0).trans rfl)
   have hz2_1 := (show wr.cell? ⟨b2, 1, none⟩ = some (.string (⟨#[]⟩ : ByteArray)) from (blk_cell BK2.out 1).trans rfl)
   have hz2_2 := (show wr.cell? ⟨b2, 2, none⟩ = some (.int .i64 0) from (blk_cell BK2.out 2).trans rfl)
   have hf2_0 := blk_frozen BK2.out 0
   have hf2_1 := blk_frozen BK2.out 1
   have hf2_2 := blk_frozen BK2.out 2
   go_wp2
   refine bodyPost_ret (results_list (rs := [.cell 2 35, .tmp 3, .tmp 4, .tmp 5]) rfl (by simp) (.cell b2 35 #[.int .i64 0, .string (⟨#[]⟩ : ByteArray), .int .i64 0] (0, 0) _ rfl (put3 BK2.out) Tryz.underlying35 rfl (by kernel_rfl) (.tmp (.tmp (.tmp .nil))))) rfl ?_
   exact ⟨by obtain ⟨h1, h2, h3, h4, h5⟩ := HQ.out; rw [h1, h3, h4, h5, bytes_ext (b := (⟨#[]⟩ : ByteArray)) (h2.trans rfl)] <;> rfl, by repeat (first | (with_reducible first | exact HB.out | refine below_set ?_ GE2.out | refine below_set ?_ GE8.out) | exact HB.out)⟩
end Go.Proofs.YtackifpnpkbddaaGreatDoorScan
