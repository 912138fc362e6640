/- Proved: what spec.l02Number answers at a digit. No other conditions but the text's size. -/
import Derived.Test.YtackifpnpkbddaaGreatDoorNumQ
namespace Go.Proofs.YtackifpnpkbddaaGreatDoorScan
open Go Go.RowKit Go.Proofs.YtackifpnpkbddaaGreatDoorW.PrintWords Go.Proofs.YtackifpnpkbddaaGreatDoorW.PrintLast Go.Proofs.YtackifpnpkbddaaGreatDoorW.PrintMore Go.Proofs.YtackifpnpkbddaaGreatDoor.QNum
set_option linter.unusedVariables false
set_option linter.unusedSimpArgs false
set_option maxHeartbeats 40000000 in
set_option maxRecDepth 100000 in
theorem num_dot (s : ByteArray) (hs : s.size ≤ 1048576) (at_ : Nat) (hat : at_ < s.size) (hd : isDig (s.data.toList.getD at_ 0) = true) (hcn : (cnt isDig (s.data.toList.drop at_) + 1 < (s.data.toList.drop at_).length ∧ (s.data.toList.drop at_).getD (cnt isDig (s.data.toList.drop at_)) 0 = 46 ∧ isDig ((s.data.toList.drop at_).getD (cnt isDig (s.data.toList.drop at_) + 1) 0) = true)) (k p n c a : Int) (t : ByteArray) (hr : conv at_ (scanNum (s.data.toList.drop at_)) = (k, t, p, n, c, a)) (w : World) :
  Calls Tryz.prog 48 #[.string s, .int .i64 (at_ : Int)] w fun e w' => e = .returned (.tuple #[.agg #[.int .i64 k, .string t, .int .i64 p], .int .i64 n, .int .i64 c, .int .i64 a]) ∧ Below w.heap.size w w' := by
 have hu := Tryz.underlying35
 have HS := Aside0.mk hs
 obtain ⟨L, hL⟩ : ∃ L, s.data.toList = L := ⟨_, rfl⟩
 have HL := Aside0.mk hL
 have HN := Aside0.mk (show s.size = L.length by rw [← hL]; rfl)
 rw [hL] at hr hd hcn
 have HR := Aside0.mk hr
 obtain ⟨i, hi⟩ : ∃ i, cnt isDig (L.drop at_) = i := ⟨_, rfl⟩
 have HIC := Aside0.mk hi
 rw [hi] at hcn
 obtain ⟨en, hen⟩ : ∃ en, at_ + i = en := ⟨_, rfl⟩
 have HEN := Aside0.mk hen
 obtain ⟨j, hj⟩ : ∃ j, en + 1 = j := ⟨_, rfl⟩
 have HJ := Aside0.mk hj
 obtain ⟨m, hm⟩ : ∃ m, cnt isDig (L.drop j) = m := ⟨_, rfl⟩
 have HMC := Aside0.mk hm
 obtain ⟨e2, he2⟩ : ∃ e2, j + m = e2 := ⟨_, rfl⟩
 have HI1 := Aside0.mk (show 1 ≤ i by rw [← hi, cnt_yes (by rw [← hL]; exact hat) hd]; omega)
 have HIL := Aside0.mk (show i ≤ L.length - at_ by rw [← hi]; have := cnt_le isDig (L.drop at_); rw [List.length_drop] at this; exact this)
 have HML := Aside0.mk (show m ≤ L.length - j by rw [← hm]; have := cnt_le isDig (L.drop j); rw [List.length_drop] at this; exact this)
 have HAT := Aside0.mk (show at_ < L.length by rw [← hL]; exact hat)
 have HENL := Aside0.mk (show en ≤ L.length by have := HIL.out; have := HAT.out; omega)
 have HE2 := Aside0.mk (show j + m = e2 ∧ e2 ≤ 2097154 by have := HML.out; have := HENL.out; have := HN.out; omega)
 have HAL := Aside0.mk (show at_ ≤ L.length by have := HAT.out; omega)
 have HEX := Aside0.mk (show (s.extract at_ en).data.toList = (L.drop at_).take i by rw [← hL, ← hen]; simp)
 have HNE := Aside0.mk (show (s.extract at_ en).data.toList ≠ [] by rw [HEX.out]; intro h_; have h9 := congrArg List.length h_; rw [List.length_take, List.length_drop] at h9; have := HI1.out; have := HIL.out; simp at h9; omega)
 have HDG := Aside0.mk (show ∀ c ∈ whole ((L.drop at_).take i), isDig c = true from whole_dig (by rw [← hi]; exact cnt_all _))
 have HWL := Aside0.mk (show (whole ((L.drop at_).take i)).length ≤ 1048577 by have h9 := whole_le ((L.drop at_).take i); rw [List.length_take, List.length_drop] at h9; have := HN.out; omega)
 obtain ⟨v, hv⟩ : ∃ v, val 0 (whole ((L.drop at_).take i)) = v := ⟨_, rfl⟩
 have HVV := Aside0.mk hv
 clear hv hs hr hL hd hi hen hj hm he2 hat
 have hwe := (show wrap64 ((at_ : Int) + (i : Int)) = (en : Int) by have := HENL.out; have := HN.out; have := HEN.out; have := HS.out; unfold wrap64; omega)
 have hwj := (show wrap64 ((en : Int) + 1) = (j : Int) by have := HENL.out; have := HN.out; have := HJ.out; have := HS.out; unfold wrap64; omega)
 have s1 : ((0 : Int) ≤ (at_ : Int)) = True := eq_true (by omega)
 have s2 : ((at_ : Int) ≤ (en : Int)) = True := eq_true (by have := HEN.out; omega)
 have s2n : (at_ ≤ en) = True := eq_true (by have := HEN.out; omega)
 have s3 : ((en : Int) ≤ (s.size : Int)) = True := eq_true (by have := HENL.out; have := HN.out; omega)
 have s3n : (en ≤ s.size) = True := eq_true (by have := HENL.out; have := HN.out; omega)
 have HLN := Aside0.mk (show (i + 1 < (L.drop at_).length ↔ j < L.length) ∧ (L.drop at_).getD i 0 = L.getD en 0 ∧ (L.drop at_).getD (i + 1) 0 = L.getD j 0 by rw [List.length_drop, getD_drop, getD_drop, HEN.out, ← Nat.add_assoc, HEN.out, HJ.out]; exact ⟨by have := HAT.out; have := HEN.out; have := HJ.out; omega, rfl, rfl⟩)
 have tok16 : True := trivial
 have tok31 : True := trivial
 have tok32 : True := trivial
 have tok18 : True := trivial
 have tok17 : True := trivial
 have tok15 : True := trivial
 have HB := Aside0.mk (Below.refl w.heap.size w)
 have HCN := Aside0.mk hcn
 obtain ⟨vg, hvg⟩ : ∃ vg, decide (9223372036854775807 < v) = vg := ⟨_, rfl⟩
 have HVG := Aside0.mk hvg
 have gv : decide ((9223372036854775807 : Int) < (v : Int)) = vg := (decide_eq_decide.2 (by omega)).trans hvg
 have gvn := hvg
 clear hvg
 have n1 : j < L.length := HLN.out.1.1 hcn.1
 have n2 : L.getD en 0 = 46 := by rw [← HLN.out.2.1]; exact hcn.2.1
 have n3 : isDig (L.getD j 0) = true := by rw [← HLN.out.2.2]; exact hcn.2.2
 clear hcn
 have c1 : decide ((j : Int) < (s.size : Int)) = true := decide_eq_true (by have := HN.out; omega)
 have c1n : decide (j < s.size) = true := decide_eq_true (by have := HN.out; omega)
 have c1p : (j < s.size) = True := eq_true (by have := HN.out; omega)
 have c1q : ((j : Int) < (s.size : Int)) = True := eq_true (by have := HN.out; omega)
 have c1z : ((0 : Int) ≤ (j : Int)) = True := eq_true (by omega)
 have c2z : ((0 : Int) ≤ (en : Int)) = True := eq_true (by omega)
 have c2q : ((en : Int) < (s.size : Int)) = True := eq_true (by have := HN.out; have := HJ.out; omega)
 have c2n : (en < s.size) = True := eq_true (by have := HN.out; have := HJ.out; omega)
 have HJL := Aside0.mk n1
 have hx1 := bt_nat s en
 have hx2 := bt_nat s j
 have c2 : (bt s (en : Int) == 46) = true := by rw [bt_get s en (by have := HN.out; have := HJ.out; omega), HL.out, n2]; rfl
 have HDJ := Aside0.mk n3
 have HMD := Aside0.mk (show cnt isDig ((L.drop at_).drop (i + 1)) = m by rw [List.drop_drop, at_j HEN.out HJ.out]; exact HMC.out)
 have HE2L := Aside0.mk (e2_len HE2.out.1 HML.out HJL.out)
 obtain ⟨y1, hy1⟩ : ∃ y1, 1 + m = y1 := ⟨_, rfl⟩
 have s4 : ((en : Int) ≤ (e2 : Int)) = True := iI_le (en_e2 HJ.out HE2.out.1) rfl
 have s4n : (en ≤ e2) = True := iN_le (en_e2 HJ.out HE2.out.1) rfl
 have s5 : ((e2 : Int) ≤ (s.size : Int)) = True := iI_le HE2L.out HN.out
 have s5n : (e2 ≤ s.size) = True := iN_le HE2L.out HN.out
 have hw1 : wrap64 (1 + (m : Int)) = (y1 : Int) := wrapE 1 m y1 hy1 (y1_le HE2.out.1 hy1 HE2.out.2)
 have hw2 : wrap64 ((en : Int) + (y1 : Int)) = (e2 : Int) := wrapE en y1 e2 (en_y1 HJ.out HE2.out.1 hy1) (le_big HE2.out.2)
 have hw3 : wrap64 ((j : Int) + (m : Int)) = (e2 : Int) := wrapE j m e2 HE2.out.1 (le_big HE2.out.2)
 have HE3 := Aside0.mk (sub_e en j m e2 HJ.out HE2.out.1)
 have HSE := Aside0.mk (sum_e at_ i en j m e2 HEN.out HJ.out HE2.out.1)
 have HLD := Aside0.mk (len_e L at_ i en j m e2 HEN.out HJ.out HE2.out.1)
 have HTX := Aside0.mk (show ∀ W : ByteArray, W.data.toList = whole ((L.drop at_).take i) → (W ++ s.extract en e2).data.toList = whole ((L.drop at_).take i) ++ ((L.drop at_).drop i).take (m + 1) from fun W h_ => (app_toList _ _).trans (by rw [h_, ext_take, HL.out, List.drop_drop, HEN.out, HE3.out]))
 clear n1 n2 n3 hy1
 go_enter Tryz.func48, Tryz.ntmps48
 by_cases v14 : 14 < (whole ((L.drop at_).take i)).length
 have HQ := Aside0.mk (tup6 ((conv_err at_ 5 0 (by decide) _ (sn_dotbig HIC.out HCN.out HMD.out (.inl v14))).symm.trans HR.out))
 have d14 : decide (14 < (whole (L.drop at_ |>.take i)).length) = true := decide_eq_true v14
 clear v14
 rotate_left
 have d14 : decide (14 < (whole (L.drop at_ |>.take i)).length) = false := decide_eq_false v14
 by_cases v4 : 4 < m
 have HQ := Aside0.mk (tup6 ((conv_err at_ 5 0 (by decide) _ (sn_dotbig HIC.out HCN.out HMD.out (.inr v4))).symm.trans HR.out))
 have g4 : decide ((4 : Int) < (m : Int)) = true := dI_t (a := 4) rfl v4
 have g4n : decide (4 < m) = true := decide_eq_true v4
 clear v14 v4
 rotate_left
 have HSD := Aside0.mk (sn_dot HIC.out HCN.out HMD.out (fun h_ => by rcases h_ with h_ | h_; exact v14 h_; exact v4 h_))
 have g4 : decide ((4 : Int) < (m : Int)) = false := dI_f (a := 4) rfl v4
 have g4n : decide (4 < m) = false := decide_eq_false v4
 clear v14 v4
 by_cases z1 : e2 < L.length
 have k1 : decide ((e2 : Int) < (s.size : Int)) = true := dI_t HN.out z1
 have k1n : decide (e2 < s.size) = true := dN_t HN.out z1
 have k1p : ((e2 : Int) < (s.size : Int)) = True := pI_t HN.out z1
 have k1q : (e2 < s.size) = True := pN_t HN.out z1
 have k1z : ((0 : Int) ≤ (e2 : Int)) = True := pI_0 _
 have hxz := bt_nat s e2
 have HZ1 := Aside0.mk z1
 rcases Bool.eq_false_or_eq_true (isLet (L.getD e2 0)) with hl | hl
 have HLE := Aside0.mk hl
 have HQ := Aside0.mk ((fun (h_ : (e2 < L.length ∧ isLet (L.getD e2 0) = true) ∨ False) => tup6 ((conv_err at_ 2 ((i + 1 + m : Nat) : Int) (by decide) _ (HSD.out.trans (ne_yes _ _ (by rcases h_ with h_ | h_; exact ⟨HLD.out.1.1 h_.1, by rw [HLD.out.2]; exact h_.2⟩; exact h_.elim)))).symm.trans HR.out)) (.inl ⟨z1, hl⟩))
 clear z1 hl
 rotate_left
 have HLE := Aside0.mk hl
 have HQ := Aside0.mk ((fun (h_ : ¬ (e2 < L.length ∧ isLet (L.getD e2 0) = true)) => tup6 ((conv_ok at_ 4 ((i + 1 + m : Nat) : Int) 0 _ _ (HSD.out.trans (ne_no _ _ (fun h9 => h_ ⟨HLD.out.1.2 h9.1, HLD.out.2 ▸ h9.2⟩)))).symm.trans HR.out)) (fun h_ => by rw [hl] at h_; exact absurd h_.2 (by simp)))
 clear z1 hl
 rotate_left
 have k1 : decide ((e2 : Int) < (s.size : Int)) = false := dI_f HN.out z1
 have k1n : decide (e2 < s.size) = false := dN_f HN.out z1
 have k1q : (e2 < s.size) = False := pN_f HN.out z1
 have HQ := Aside0.mk ((fun (h_ : ¬ (e2 < L.length ∧ isLet (L.getD e2 0) = true)) => tup6 ((conv_ok at_ 4 ((i + 1 + m : Nat) : Int) 0 _ _ (HSD.out.trans (ne_no _ _ (fun h9 => h_ ⟨HLD.out.1.2 h9.1, HLD.out.2 ▸ h9.2⟩)))).symm.trans HR.out)) (fun h_ => z1 h_.1))
 clear z1
 rotate_left
 all_goals
  obtain ⟨bg, hbg⟩ : ∃ bg, decide (19 < (whole ((L.drop at_).take i)).length) = bg := ⟨_, rfl⟩
  have HBG := Aside0.mk hbg
  clear hbg
  cases bg
  all_goals
   go_wp2_with (first | ((with_reducible refine gate_dst (N := 4) rfl ?_); refine box_event ?hg (N := 4) ?hd (cs := #[.int .i64 0, .string (⟨#[]⟩ : ByteArray), .int .i64 0]) (t := 35) ?hr ?_; (case hd => rfl); (case hg => rfl); (case hr => first | (go_simp; done) | (go_simp; rfl)); intro b2 hg w2 hbox hb; have GE2 := Aside0.mk (show w.heap.size ≤ b2 by rw [hg]; exact below_size HB.out); replace HB := Aside0.mk (below_step HB.out hb); skip; have BK2 := Aside0.mk hbox; clear hbox hg hb) | (go_at_call 61; (have t_ := tok16; clear t_; (with_reducible refine (run16 s L HL.out HS.out at_ i HAL.out HIC.out _).mono ?_); rintro en w16 ⟨rfl, hb⟩; replace HB := Aside0.mk (below_step HB.out hb); replace BK2 := Aside0.mk (blk_below BK2.out hb); clear hb tok16)) | (go_at_call 62; (have t_ := tok31; clear t_; (with_reducible refine (nought31 (s.extract at_ en) HNE.out _).mono ?_); rintro en w31 ⟨W, rfl, hW, hb⟩; replace HB := Aside0.mk (below_step HB.out hb); replace BK2 := Aside0.mk (blk_below BK2.out hb); clear hb tok31; have HWW := Aside0.mk (hW.trans (congrArg whole HEX.out)); clear hW; have g19 := ((show decide ((19 : Int) < (W.size : Int)) = decide (19 < (whole ((L.drop at_).take i)).length) from by rw [size_len, HWW.out]; exact decide_eq_decide.2 (by omega)).trans HBG.out); have g19n := ((show decide (19 < W.size) = decide (19 < (whole ((L.drop at_).take i)).length) from by rw [size_len, HWW.out]).trans HBG.out); have g14 := (show decide ((14 : Int) < (W.size : Int)) = decide (14 < (whole (L.drop at_ |>.take i)).length) from by rw [size_len, HWW.out]; exact decide_eq_decide.2 (by omega)); have g14n := (show decide (14 < W.size) = decide (14 < (whole (L.drop at_ |>.take i)).length) from by rw [size_len, HWW.out]); have HWS := Aside0.mk (show W.size ≤ 1048577 by rw [size_len, HWW.out]; exact HWL.out); have hcat := (show (9223372036854775807 < W.size + (e2 - en)) = False from eq_false (by have := HWS.out; have := HE2.out; omega)); have hcat2 := (show decide (9223372036854775807 < W.size + (e2 - en)) = false from decide_eq_false (by have := HWS.out; have := HE2.out; omega)))) | ((with_reducible refine gate_dst (N := 11) rfl ?_); refine box_event ?hg (N := 11) ?hd (cs := #[.int .i64 0, .string (⟨#[]⟩ : ByteArray), .int .i64 0]) (t := 35) ?hr ?_; (case hd => rfl); (case hg => rfl); (case hr => first | (go_simp; done) | (go_simp; rfl)); intro b8 hg w8 hbox hb; have GE8 := Aside0.mk (show w.heap.size ≤ b8 by rw [hg]; exact below_size HB.out); replace HB := Aside0.mk (below_step HB.out hb); skip; have NE8_0 := Aside0.mk (show b2 ≠ b8 by rw [hg]; exact Nat.ne_of_lt (blk_lt BK2.out)); have BK8 := Aside0.mk hbox; clear hbox hg; have hz0 := (show w8.cell? ⟨b8, 0, none⟩ = some (.int .i64 0) from (blk_cell BK8.out 0).trans rfl); have hf0 := blk_frozen BK8.out 0; have hz1 := (show w8.cell? ⟨b8, 1, none⟩ = some (.string (⟨#[]⟩ : ByteArray)) from (blk_cell BK8.out 1).trans rfl); have hf1 := blk_frozen BK8.out 1; have hz2 := (show w8.cell? ⟨b8, 2, none⟩ = some (.int .i64 0) from (blk_cell BK8.out 2).trans rfl); have hf2 := blk_frozen BK8.out 2; have k_ := Aside0.mk (blk_below BK2.out hb); clear BK2; have BK2 := k_; clear k_; skip; clear hb) | ((with_reducible refine gate_store (t := 35) (p := 11) rfl ?_); refine store_event (t := 35) (p := 11) (v := ?vo_11) (w1 := (((w8.setCell ⟨b8, 0, none⟩ (.int .i64 3)).setCell ⟨b8, 1, none⟩ (.string W)).setCell ⟨b8, 2, none⟩ (.int .i64 (at_ : Int)))) ?hg ?ho ?hn ?hr ?_; (case ho => rfl); (case hg => rfl); (case hn => rfl); (case hr => first | (go_simp; done) | (go_simp; rfl)); intro w7 hw; have n0_ : Aside0 (Below w.heap.size w w7) := ⟨by rw [hw]; exact (below_set (below_set (below_set HB.out GE8.out) GE8.out) GE8.out)⟩; have n1_ : Aside0 (w7.heap[b8]? = some (.cells #[.int .i64 3, .string W, .int .i64 (at_ : Int)] 35 (0, 0))) := ⟨by rw [hw]; exact (blk_list (blk_list (blk_list BK8.out 0 _) 1 _) 2 _)⟩; have kk0_ : Aside0 (w7.heap[b2]? = some (.cells #[.int .i64 0, .string (⟨#[]⟩ : ByteArray), .int .i64 0] 35 (0, 0))) := ⟨by rw [hw]; exact (blk_far (p := ⟨b8, 2, none⟩) (blk_far (p := ⟨b8, 1, none⟩) (blk_far (p := ⟨b8, 0, none⟩) BK2.out NE8_0.out _) NE8_0.out _) NE8_0.out _)⟩; clear HB BK8 BK2 hw hz0 hf0 hz1 hf1 hz2 hf2; have HB := n0_; have BK8 := n1_; clear n0_ n1_; have BK2 := kk0_; clear kk0_; obtain ⟨hz2_0, hz2_1, hz2_2, hf2_0, hf2_1, hf2_2⟩ := row3 BK2.out; obtain ⟨hk8_0, hk8_1, hk8_2, hf8_0, hf8_1, hf8_2⟩ := row3 BK8.out) | (go_at_call 63; (have t_ := tok32; clear t_; (with_reducible refine (digits32 W _ HWW.out HDG.out (whole_ne _) (Nat.le_of_not_lt (of_decide_eq_false HBG.out)) _).mono ?_); rintro en w32 ⟨rfl, hb⟩; replace HB := Aside0.mk (below_step HB.out hb); replace BK2 := Aside0.mk (blk_below BK2.out hb); replace BK8 := Aside0.mk (blk_below BK8.out hb); clear hb tok32; obtain ⟨hz2_0, hz2_1, hz2_2, hf2_0, hf2_1, hf2_2⟩ := row3 BK2.out; rw [HVV.out]; obtain ⟨hk8_0, hk8_1, hk8_2, hf8_0, hf8_1, hf8_2⟩ := row3 BK8.out)) | (go_at_call 46; (have t_ := tok18; clear t_; (with_reducible refine (sdigit_at s L HL.out j HJL.out true HDJ.out _).mono ?_); rintro en w18 ⟨rfl, hb⟩; replace HB := Aside0.mk (below_step HB.out hb); replace BK2 := Aside0.mk (blk_below BK2.out hb); replace BK8 := Aside0.mk (blk_below BK8.out hb); clear hb tok18; obtain ⟨hz2_0, hz2_1, hz2_2, hf2_0, hf2_1, hf2_2⟩ := row3 BK2.out; obtain ⟨hk8_0, hk8_1, hk8_2, hf8_0, hf8_1, hf8_2⟩ := row3 BK8.out)) | (go_at_call 61; (have t_ := tok17; clear t_; (with_reducible refine (run16 s L HL.out HS.out j m (Nat.le_of_lt HJL.out) HMC.out _).mono ?_); rintro en w17 ⟨rfl, hb⟩; replace HB := Aside0.mk (below_step HB.out hb); replace BK2 := Aside0.mk (blk_below BK2.out hb); replace BK8 := Aside0.mk (blk_below BK8.out hb); clear hb tok17; obtain ⟨hz2_0, hz2_1, hz2_2, hf2_0, hf2_1, hf2_2⟩ := row3 BK2.out; obtain ⟨hk8_0, hk8_1, hk8_2, hf8_0, hf8_1, hf8_2⟩ := row3 BK8.out)) | ((with_reducible refine gate_store (t := 3) (p := 66) rfl ?_); refine store_event (t := 3) (p := 66) (v := ?vo_66) (w1 := w17.setCell ⟨b8, 0, none⟩ (.int .i64 4)) ?hg ?ho ?hn ?hr ?_; (case ho => rfl); (case hg => rfl); (case hn => rfl); (case hr => first | (go_simp; done) | (go_simp; rfl)); intro w66 hw; (have n0_ : Aside0 (Below w.heap.size w w66) := ⟨by rw [hw]; exact (below_set HB.out GE8.out)⟩; have n1_ : Aside0 (w66.heap[b8]? = some (.cells #[.int .i64 4, .string W, .int .i64 (at_ : Int)] 35 (0, 0))) := ⟨by rw [hw]; exact (blk_list BK8.out 0 _)⟩; have n2_ : Aside0 (w66.heap[b2]? = some (.cells #[.int .i64 0, .string (⟨#[]⟩ : ByteArray), .int .i64 0] 35 (0, 0))) := ⟨by rw [hw]; exact (blk_far (p := ⟨b8, 0, none⟩) BK2.out NE8_0.out _)⟩; clear HB BK2 BK8 hw; have HB := n0_; have BK8 := n1_; have BK2 := n2_; clear n0_ n1_ n2_; obtain ⟨hz2_0, hz2_1, hz2_2, hf2_0, hf2_1, hf2_2⟩ := row3 BK2.out; obtain ⟨hk8_0, hk8_1, hk8_2, hf8_0, hf8_1, hf8_2⟩ := row3 BK8.out)) | ((with_reducible refine gate_store (t := 9) (p := 76) rfl ?_); refine store_event (t := 9) (p := 76) (v := ?vo_76) (w1 := w66.setCell ⟨b8, 1, none⟩ (.string (W ++ s.extract en e2))) ?hg ?ho ?hn ?hr ?_; (case ho => rfl); (case hg => rfl); (case hn => rfl); (case hr => first | (go_simp; done) | (go_simp; rfl)); intro w76 hw; (have n0_ : Aside0 (Below w.heap.size w w76) := ⟨by rw [hw]; exact (below_set HB.out GE8.out)⟩; have n1_ : Aside0 (w76.heap[b8]? = some (.cells #[.int .i64 4, .string (W ++ s.extract en e2), .int .i64 (at_ : Int)] 35 (0, 0))) := ⟨by rw [hw]; exact (blk_list BK8.out 1 _)⟩; have n2_ : Aside0 (w76.heap[b2]? = some (.cells #[.int .i64 0, .string (⟨#[]⟩ : ByteArray), .int .i64 0] 35 (0, 0))) := ⟨by rw [hw]; exact (blk_far (p := ⟨b8, 1, none⟩) BK2.out NE8_0.out _)⟩; clear HB BK2 BK8 hw; have HB := n0_; have BK8 := n1_; have BK2 := n2_; clear n0_ n1_ n2_; obtain ⟨hz2_0, hz2_1, hz2_2, hf2_0, hf2_1, hf2_2⟩ := row3 BK2.out; obtain ⟨hk8_0, hk8_1, hk8_2, hf8_0, hf8_1, hf8_2⟩ := row3 BK8.out)) | (go_at_call 45; (have t_ := tok15; clear t_; (with_reducible refine (sletter_at s L HL.out e2 HZ1.out _ HLE.out _).mono ?_); rintro en w15 ⟨rfl, hb⟩; replace HB := Aside0.mk (below_step HB.out hb); replace BK2 := Aside0.mk (blk_below BK2.out hb); replace BK8 := Aside0.mk (blk_below BK8.out hb); clear hb tok15; obtain ⟨hz2_0, hz2_1, hz2_2, hf2_0, hf2_1, hf2_2⟩ := row3 BK2.out; obtain ⟨hk8_0, hk8_1, hk8_2, hf8_0, hf8_1, hf8_2⟩ := row3 BK8.out)))
   first | refine bodyPost_ret (results_list (rs := [.cell 4 35, .tmp 5, .tmp 6, .tmp 7]) rfl (by simp) (.cell b2 35 #[.int .i64 0, .string (⟨#[]⟩ : ByteArray), .int .i64 0] (0, 0) _ rfl (put3 BK2.out) Tryz.underlying35 rfl (by kernel_rfl) (.tmp (.tmp (.tmp .nil))))) rfl ?_ | refine bodyPost_ret (results_list (rs := [.cell 4 35, .tmp 5, .tmp 6, .tmp 7]) rfl (by simp) (.cell b2 35 #[.int .i64 4, .string (W ++ s.extract en e2), .int .i64 (at_ : Int)] (0, 0) _ rfl (put3 BK2.out) Tryz.underlying35 rfl (by kernel_rfl) (.tmp (.tmp (.tmp .nil))))) rfl ?_
   exact ⟨by obtain ⟨h1, h2, h6, h3, h4, h5⟩ := HQ.out; first | (rw [h1, h6, h3, h4, h5, h2, Int.add_zero] <;> rfl) | (rw [h1, h6, h3, h4, h5, h2, HSE.out, ← hw2] <;> rfl) | (rw [h1, h6, h3, h4, h5, h2, bytes_mk (HTX.out W HWW.out), HSE.out, ← hw2] <;> rfl), by repeat (first | (with_reducible first | exact HB.out | refine below_set ?_ GE2.out | refine below_set ?_ GE8.out) | exact HB.out)⟩
set_option maxHeartbeats 40000000 in
set_option maxRecDepth 100000 in
theorem num_int (s : ByteArray) (hs : s.size ≤ 1048576) (at_ : Nat) (hat : at_ < s.size) (hd : isDig (s.data.toList.getD at_ 0) = true) (hcn : ¬ (cnt isDig (s.data.toList.drop at_) + 1 < (s.data.toList.drop at_).length ∧ (s.data.toList.drop at_).getD (cnt isDig (s.data.toList.drop at_)) 0 = 46 ∧ isDig ((s.data.toList.drop at_).getD (cnt isDig (s.data.toList.drop at_) + 1) 0) = true)) (k p n c a : Int) (t : ByteArray) (hr : conv at_ (scanNum (s.data.toList.drop at_)) = (k, t, p, n, c, a)) (w : World) :
  Calls Tryz.prog 48 #[.string s, .int .i64 (at_ : Int)] w fun e w' => e = .returned (.tuple #[.agg #[.int .i64 k, .string t, .int .i64 p], .int .i64 n, .int .i64 c, .int .i64 a]) ∧ Below w.heap.size w w' := by
 have hu := Tryz.underlying35
 have HS := Aside0.mk hs
 obtain ⟨L, hL⟩ : ∃ L, s.data.toList = L := ⟨_, rfl⟩
 have HL := Aside0.mk hL
 have HN := Aside0.mk (show s.size = L.length by rw [← hL]; rfl)
 rw [hL] at hr hd hcn
 have HR := Aside0.mk hr
 obtain ⟨i, hi⟩ : ∃ i, cnt isDig (L.drop at_) = i := ⟨_, rfl⟩
 have HIC := Aside0.mk hi
 rw [hi] at hcn
 obtain ⟨en, hen⟩ : ∃ en, at_ + i = en := ⟨_, rfl⟩
 have HEN := Aside0.mk hen
 obtain ⟨j, hj⟩ : ∃ j, en + 1 = j := ⟨_, rfl⟩
 have HJ := Aside0.mk hj
 obtain ⟨m, hm⟩ : ∃ m, cnt isDig (L.drop j) = m := ⟨_, rfl⟩
 have HMC := Aside0.mk hm
 obtain ⟨e2, he2⟩ : ∃ e2, j + m = e2 := ⟨_, rfl⟩
 have HI1 := Aside0.mk (show 1 ≤ i by rw [← hi, cnt_yes (by rw [← hL]; exact hat) hd]; omega)
 have HIL := Aside0.mk (show i ≤ L.length - at_ by rw [← hi]; have := cnt_le isDig (L.drop at_); rw [List.length_drop] at this; exact this)
 have HML := Aside0.mk (show m ≤ L.length - j by rw [← hm]; have := cnt_le isDig (L.drop j); rw [List.length_drop] at this; exact this)
 have HAT := Aside0.mk (show at_ < L.length by rw [← hL]; exact hat)
 have HENL := Aside0.mk (show en ≤ L.length by have := HIL.out; have := HAT.out; omega)
 have HE2 := Aside0.mk (show j + m = e2 ∧ e2 ≤ 2097154 by have := HML.out; have := HENL.out; have := HN.out; omega)
 have HAL := Aside0.mk (show at_ ≤ L.length by have := HAT.out; omega)
 have HEX := Aside0.mk (show (s.extract at_ en).data.toList = (L.drop at_).take i by rw [← hL, ← hen]; simp)
 have HNE := Aside0.mk (show (s.extract at_ en).data.toList ≠ [] by rw [HEX.out]; intro h_; have h9 := congrArg List.length h_; rw [List.length_take, List.length_drop] at h9; have := HI1.out; have := HIL.out; simp at h9; omega)
 have HDG := Aside0.mk (show ∀ c ∈ whole ((L.drop at_).take i), isDig c = true from whole_dig (by rw [← hi]; exact cnt_all _))
 have HWL := Aside0.mk (show (whole ((L.drop at_).take i)).length ≤ 1048577 by have h9 := whole_le ((L.drop at_).take i); rw [List.length_take, List.length_drop] at h9; have := HN.out; omega)
 obtain ⟨v, hv⟩ : ∃ v, val 0 (whole ((L.drop at_).take i)) = v := ⟨_, rfl⟩
 have HVV := Aside0.mk hv
 clear hv hs hr hL hd hi hen hj hm he2 hat
 have hwe := (show wrap64 ((at_ : Int) + (i : Int)) = (en : Int) by have := HENL.out; have := HN.out; have := HEN.out; have := HS.out; unfold wrap64; omega)
 have hwj := (show wrap64 ((en : Int) + 1) = (j : Int) by have := HENL.out; have := HN.out; have := HJ.out; have := HS.out; unfold wrap64; omega)
 have s1 : ((0 : Int) ≤ (at_ : Int)) = True := eq_true (by omega)
 have s2 : ((at_ : Int) ≤ (en : Int)) = True := eq_true (by have := HEN.out; omega)
 have s2n : (at_ ≤ en) = True := eq_true (by have := HEN.out; omega)
 have s3 : ((en : Int) ≤ (s.size : Int)) = True := eq_true (by have := HENL.out; have := HN.out; omega)
 have s3n : (en ≤ s.size) = True := eq_true (by have := HENL.out; have := HN.out; omega)
 have HLN := Aside0.mk (show (i + 1 < (L.drop at_).length ↔ j < L.length) ∧ (L.drop at_).getD i 0 = L.getD en 0 ∧ (L.drop at_).getD (i + 1) 0 = L.getD j 0 by rw [List.length_drop, getD_drop, getD_drop, HEN.out, ← Nat.add_assoc, HEN.out, HJ.out]; exact ⟨by have := HAT.out; have := HEN.out; have := HJ.out; omega, rfl, rfl⟩)
 have tok16 : True := trivial
 have tok31 : True := trivial
 have tok32 : True := trivial
 have tok18 : True := trivial
 have tok17 : True := trivial
 have tok15 : True := trivial
 have HB := Aside0.mk (Below.refl w.heap.size w)
 have HCN := Aside0.mk hcn
 obtain ⟨vg, hvg⟩ : ∃ vg, decide (9223372036854775807 < v) = vg := ⟨_, rfl⟩
 have HVG := Aside0.mk hvg
 have gv : decide ((9223372036854775807 : Int) < (v : Int)) = vg := (decide_eq_decide.2 (by omega)).trans hvg
 have gvn := hvg
 clear hvg
 by_cases n1 : j < L.length
 have c1 : decide ((j : Int) < (s.size : Int)) = true := decide_eq_true (by have := HN.out; omega)
 have c1n : decide (j < s.size) = true := decide_eq_true (by have := HN.out; omega)
 have c1p : (j < s.size) = True := eq_true (by have := HN.out; omega)
 have c1q : ((j : Int) < (s.size : Int)) = True := eq_true (by have := HN.out; omega)
 have c1z : ((0 : Int) ≤ (j : Int)) = True := eq_true (by omega)
 have c2z : ((0 : Int) ≤ (en : Int)) = True := eq_true (by omega)
 have c2q : ((en : Int) < (s.size : Int)) = True := eq_true (by have := HN.out; have := HJ.out; omega)
 have c2n : (en < s.size) = True := eq_true (by have := HN.out; have := HJ.out; omega)
 have HJL := Aside0.mk n1
 have hx1 := bt_nat s en
 have hx2 := bt_nat s j
 have z1 : en < L.length := by have := HJ.out; omega
 have HZ1 := Aside0.mk z1
 have k1 : decide ((en : Int) < (s.size : Int)) = true := dI_t HN.out z1
 have k1n : decide (en < s.size) = true := dN_t HN.out z1
 have k1p : ((en : Int) < (s.size : Int)) = True := pI_t HN.out z1
 have k1q : (en < s.size) = True := pN_t HN.out z1
 have k1z : ((0 : Int) ≤ (en : Int)) = True := pI_0 _
 have hxz := bt_nat s en
 by_cases n2 : L.getD en 0 = 46
 have c2 : (bt s (en : Int) == 46) = true := by rw [bt_get s en (by have := HN.out; have := HJ.out; omega), HL.out, n2]; rfl
 rcases Bool.eq_false_or_eq_true (isDig (L.getD j 0)) with n3 | n3
 exact absurd ⟨HLN.out.1.2 n1, HLN.out.2.1.trans n2, by rw [HLN.out.2.2]; exact n3⟩ hcn
 have HDJ := Aside0.mk n3
 clear hcn n1 n2 n3 z1
 rotate_left
 have c2 : (bt s (en : Int) == 46) = false := by rw [bt_get s en (by have := HN.out; have := HJ.out; omega), HL.out]; simp only [beq_eq_false_iff_ne, ne_eq]; intro h_; exact n2 (UInt8.toNat_inj.1 (show (L.getD en 0).toNat = 46 by omega))
 clear hcn n1 n2 z1
 rotate_left
 have c1 : decide ((j : Int) < (s.size : Int)) = false := decide_eq_false (by have := HN.out; omega)
 have c1n : decide (j < s.size) = false := decide_eq_false (by have := HN.out; omega)
 have c1p : (j < s.size) = False := eq_false (by have := HN.out; omega)
 by_cases z1 : en < L.length
 have HZ1 := Aside0.mk z1
 have k1 : decide ((en : Int) < (s.size : Int)) = true := dI_t HN.out z1
 have k1n : decide (en < s.size) = true := dN_t HN.out z1
 have k1p : ((en : Int) < (s.size : Int)) = True := pI_t HN.out z1
 have k1q : (en < s.size) = True := pN_t HN.out z1
 have k1z : ((0 : Int) ≤ (en : Int)) = True := pI_0 _
 have hxz := bt_nat s en
 clear hcn n1 z1
 rotate_left
 have HNZ := Aside0.mk z1
 have k1 : decide ((en : Int) < (s.size : Int)) = false := dI_f HN.out z1
 have k1n : decide (en < s.size) = false := dN_f HN.out z1
 have k1q : (en < s.size) = False := pN_f HN.out z1
 clear hcn n1 z1
 rotate_left
 all_goals
  go_enter Tryz.func48, Tryz.ntmps48
  by_cases hk : 19 < (whole ((L.drop at_).take i)).length
  have HV := Aside0.mk (show 9223372036854775808 ≤ v by rw [← HVV.out]; exact whole_big (by rw [← HIC.out]; exact cnt_all _) hk)
  have HQ := Aside0.mk (tup6 ((conv_err at_ 5 0 (by decide) _ (sn_big HIC.out HCN.out (by rw [HVV.out]; exact HV.out))).symm.trans HR.out))
  have HBG := Aside0.mk (decide_eq_true hk)
  obtain rfl : true = vg := by rw [← HVG.out]; exact (decide_eq_true (by have := HV.out; omega)).symm
  clear hk
  rotate_left
  have HBG := Aside0.mk (decide_eq_false hk)
  clear hk
  by_cases hk2 : 9223372036854775808 ≤ v
  have HV := Aside0.mk hk2
  have HQ := Aside0.mk (tup6 ((conv_err at_ 5 0 (by decide) _ (sn_big HIC.out HCN.out (by rw [HVV.out]; exact HV.out))).symm.trans HR.out))
  obtain rfl : true = vg := by rw [← HVG.out]; exact (decide_eq_true (by omega)).symm
  clear hk2
  rotate_left
  have HV := Aside0.mk (show v < 9223372036854775808 by omega)
  obtain rfl : false = vg := by rw [← HVG.out]; exact (decide_eq_false (by omega)).symm
  clear hk2
  first
  | have hz_ := HZ1.out
    rcases Bool.eq_false_or_eq_true (isLet (L.getD en 0)) with hl | hl
    have HLE := Aside0.mk hl
    have HQ := Aside0.mk ((fun (h_ : (en < L.length ∧ isLet (L.getD en 0) = true) ∨ False) => tup6 ((conv_err at_ 2 (i : Int) (by decide) _ ((sn_int HIC.out HCN.out (by rw [HVV.out]; exact HV.out)).trans (ne_yes _ _ (by rcases h_ with h_ | h_; exact ⟨by have := HENL.out; have := HEN.out; rw [List.length_drop]; omega, by rw [HLN.out.2.1]; exact h_.2⟩; exact h_.elim)))).symm.trans HR.out)) (.inl ⟨hz_, hl⟩))
    clear hz_ hl
    rotate_left
    have HLE := Aside0.mk hl
    have HQ := Aside0.mk ((fun (h_ : ¬ (en < L.length ∧ isLet (L.getD en 0) = true)) => tup6 ((conv_ok at_ 3 (i : Int) 0 _ _ ((sn_int HIC.out HCN.out (by rw [HVV.out]; exact HV.out)).trans (ne_no _ _ (fun h9 => h_ ⟨by have := HEN.out; have h8 := h9.1; rw [List.length_drop] at h8; omega, by rw [← HLN.out.2.1]; exact h9.2⟩)))).symm.trans HR.out)) (fun h_ => by rw [hl] at h_; exact absurd h_.2 (by simp)))
    clear hz_ hl
  | have hz_ := HNZ.out
    have HQ := Aside0.mk ((fun (h_ : ¬ (en < L.length ∧ isLet (L.getD en 0) = true)) => tup6 ((conv_ok at_ 3 (i : Int) 0 _ _ ((sn_int HIC.out HCN.out (by rw [HVV.out]; exact HV.out)).trans (ne_no _ _ (fun h9 => h_ ⟨by have := HEN.out; have h8 := h9.1; rw [List.length_drop] at h8; omega, by rw [← HLN.out.2.1]; exact h9.2⟩)))).symm.trans HR.out)) (fun h_ => hz_ h_.1))
    clear hz_
 all_goals
  go_wp2_with (first | ((with_reducible refine gate_dst (N := 4) rfl ?_); refine box_event ?hg (N := 4) ?hd (cs := #[.int .i64 0, .string (⟨#[]⟩ : ByteArray), .int .i64 0]) (t := 35) ?hr ?_; (case hd => rfl); (case hg => rfl); (case hr => first | (go_simp; done) | (go_simp; rfl)); intro b2 hg w2 hbox hb; have GE2 := Aside0.mk (show w.heap.size ≤ b2 by rw [hg]; exact below_size HB.out); replace HB := Aside0.mk (below_step HB.out hb); skip; have BK2 := Aside0.mk hbox; clear hbox hg hb) | (go_at_call 61; (have t_ := tok16; clear t_; (with_reducible refine (run16 s L HL.out HS.out at_ i HAL.out HIC.out _).mono ?_); rintro en w16 ⟨rfl, hb⟩; replace HB := Aside0.mk (below_step HB.out hb); replace BK2 := Aside0.mk (blk_below BK2.out hb); clear hb tok16)) | (go_at_call 62; (have t_ := tok31; clear t_; (with_reducible refine (nought31 (s.extract at_ en) HNE.out _).mono ?_); rintro en w31 ⟨W, rfl, hW, hb⟩; replace HB := Aside0.mk (below_step HB.out hb); replace BK2 := Aside0.mk (blk_below BK2.out hb); clear hb tok31; have HWW := Aside0.mk (hW.trans (congrArg whole HEX.out)); clear hW; have g19 := ((show decide ((19 : Int) < (W.size : Int)) = decide (19 < (whole ((L.drop at_).take i)).length) from by rw [size_len, HWW.out]; exact decide_eq_decide.2 (by omega)).trans HBG.out); have g19n := ((show decide (19 < W.size) = decide (19 < (whole ((L.drop at_).take i)).length) from by rw [size_len, HWW.out]).trans HBG.out); have g14 := (show decide ((14 : Int) < (W.size : Int)) = decide (14 < (whole (L.drop at_ |>.take i)).length) from by rw [size_len, HWW.out]; exact decide_eq_decide.2 (by omega)); have g14n := (show decide (14 < W.size) = decide (14 < (whole (L.drop at_ |>.take i)).length) from by rw [size_len, HWW.out]); have HWS := Aside0.mk (show W.size ≤ 1048577 by rw [size_len, HWW.out]; exact HWL.out); have hcat := (show (9223372036854775807 < W.size + (e2 - en)) = False from eq_false (by have := HWS.out; have := HE2.out; omega)); have hcat2 := (show decide (9223372036854775807 < W.size + (e2 - en)) = false from decide_eq_false (by have := HWS.out; have := HE2.out; omega)))) | ((with_reducible refine gate_dst (N := 11) rfl ?_); refine box_event ?hg (N := 11) ?hd (cs := #[.int .i64 0, .string (⟨#[]⟩ : ByteArray), .int .i64 0]) (t := 35) ?hr ?_; (case hd => rfl); (case hg => rfl); (case hr => first | (go_simp; done) | (go_simp; rfl)); intro b8 hg w8 hbox hb; have GE8 := Aside0.mk (show w.heap.size ≤ b8 by rw [hg]; exact below_size HB.out); replace HB := Aside0.mk (below_step HB.out hb); skip; have NE8_0 := Aside0.mk (show b2 ≠ b8 by rw [hg]; exact Nat.ne_of_lt (blk_lt BK2.out)); have BK8 := Aside0.mk hbox; clear hbox hg; have hz0 := (show w8.cell? ⟨b8, 0, none⟩ = some (.int .i64 0) from (blk_cell BK8.out 0).trans rfl); have hf0 := blk_frozen BK8.out 0; have hz1 := (show w8.cell? ⟨b8, 1, none⟩ = some (.string (⟨#[]⟩ : ByteArray)) from (blk_cell BK8.out 1).trans rfl); have hf1 := blk_frozen BK8.out 1; have hz2 := (show w8.cell? ⟨b8, 2, none⟩ = some (.int .i64 0) from (blk_cell BK8.out 2).trans rfl); have hf2 := blk_frozen BK8.out 2; have k_ := Aside0.mk (blk_below BK2.out hb); clear BK2; have BK2 := k_; clear k_; skip; clear hb) | ((with_reducible refine gate_store (t := 35) (p := 11) rfl ?_); refine store_event (t := 35) (p := 11) (v := ?vo_11) (w1 := (((w8.setCell ⟨b8, 0, none⟩ (.int .i64 3)).setCell ⟨b8, 1, none⟩ (.string W)).setCell ⟨b8, 2, none⟩ (.int .i64 (at_ : Int)))) ?hg ?ho ?hn ?hr ?_; (case ho => rfl); (case hg => rfl); (case hn => rfl); (case hr => first | (go_simp; done) | (go_simp; rfl)); intro w7 hw; have n0_ : Aside0 (Below w.heap.size w w7) := ⟨by rw [hw]; exact (below_set (below_set (below_set HB.out GE8.out) GE8.out) GE8.out)⟩; have n1_ : Aside0 (w7.heap[b8]? = some (.cells #[.int .i64 3, .string W, .int .i64 (at_ : Int)] 35 (0, 0))) := ⟨by rw [hw]; exact (blk_list (blk_list (blk_list BK8.out 0 _) 1 _) 2 _)⟩; have kk0_ : Aside0 (w7.heap[b2]? = some (.cells #[.int .i64 0, .string (⟨#[]⟩ : ByteArray), .int .i64 0] 35 (0, 0))) := ⟨by rw [hw]; exact (blk_far (p := ⟨b8, 2, none⟩) (blk_far (p := ⟨b8, 1, none⟩) (blk_far (p := ⟨b8, 0, none⟩) BK2.out NE8_0.out _) NE8_0.out _) NE8_0.out _)⟩; clear HB BK8 BK2 hw hz0 hf0 hz1 hf1 hz2 hf2; have HB := n0_; have BK8 := n1_; clear n0_ n1_; have BK2 := kk0_; clear kk0_; obtain ⟨hz2_0, hz2_1, hz2_2, hf2_0, hf2_1, hf2_2⟩ := row3 BK2.out; obtain ⟨hk8_0, hk8_1, hk8_2, hf8_0, hf8_1, hf8_2⟩ := row3 BK8.out) | (go_at_call 63; (have t_ := tok32; clear t_; (with_reducible refine (digits32 W _ HWW.out HDG.out (whole_ne _) (Nat.le_of_not_lt (of_decide_eq_false HBG.out)) _).mono ?_); rintro en w32 ⟨rfl, hb⟩; replace HB := Aside0.mk (below_step HB.out hb); replace BK2 := Aside0.mk (blk_below BK2.out hb); replace BK8 := Aside0.mk (blk_below BK8.out hb); clear hb tok32; obtain ⟨hz2_0, hz2_1, hz2_2, hf2_0, hf2_1, hf2_2⟩ := row3 BK2.out; rw [HVV.out]; obtain ⟨hk8_0, hk8_1, hk8_2, hf8_0, hf8_1, hf8_2⟩ := row3 BK8.out)) | (go_at_call 46; (have t_ := tok18; clear t_; (with_reducible refine (sdigit_at s L HL.out j HJL.out false HDJ.out _).mono ?_); rintro en w18 ⟨rfl, hb⟩; replace HB := Aside0.mk (below_step HB.out hb); replace BK2 := Aside0.mk (blk_below BK2.out hb); replace BK8 := Aside0.mk (blk_below BK8.out hb); clear hb tok18; obtain ⟨hz2_0, hz2_1, hz2_2, hf2_0, hf2_1, hf2_2⟩ := row3 BK2.out; obtain ⟨hk8_0, hk8_1, hk8_2, hf8_0, hf8_1, hf8_2⟩ := row3 BK8.out)) | (go_at_call 45; (have t_ := tok15; clear t_; (with_reducible refine (sletter_at s L HL.out en HZ1.out _ HLE.out _).mono ?_); rintro en w15 ⟨rfl, hb⟩; replace HB := Aside0.mk (below_step HB.out hb); replace BK2 := Aside0.mk (blk_below BK2.out hb); replace BK8 := Aside0.mk (blk_below BK8.out hb); clear hb tok15; obtain ⟨hz2_0, hz2_1, hz2_2, hf2_0, hf2_1, hf2_2⟩ := row3 BK2.out; obtain ⟨hk8_0, hk8_1, hk8_2, hf8_0, hf8_1, hf8_2⟩ := row3 BK8.out)))
  first | refine bodyPost_ret (results_list (rs := [.cell 4 35, .tmp 5, .tmp 6, .tmp 7]) rfl (by simp) (.cell b2 35 #[.int .i64 0, .string (⟨#[]⟩ : ByteArray), .int .i64 0] (0, 0) _ rfl (put3 BK2.out) Tryz.underlying35 rfl (by kernel_rfl) (.tmp (.tmp (.tmp .nil))))) rfl ?_ | refine bodyPost_ret (results_list (rs := [.cell 4 35, .tmp 5, .tmp 6, .tmp 7]) rfl (by simp) (.cell b2 35 #[.int .i64 3, .string W, .int .i64 (at_ : Int)] (0, 0) _ rfl (put3 BK2.out) Tryz.underlying35 rfl (by kernel_rfl) (.tmp (.tmp (.tmp .nil))))) rfl ?_
  exact ⟨by obtain ⟨h1, h2, h6, h3, h4, h5⟩ := HQ.out; first | (rw [h1, h6, h3, h4, h5, h2, Int.add_zero] <;> rfl) | (rw [h1, h6, h3, h4, h5, h2, show (at_ : Int) + (i : Int) = (en : Int) by have := HEN.out; omega] <;> rfl) | (rw [h1, h6, h3, h4, h5, h2, bytes_mk HWW.out, show (at_ : Int) + (i : Int) = (en : Int) by have := HEN.out; omega] <;> rfl), by repeat (first | (with_reducible first | exact HB.out | refine below_set ?_ GE2.out | refine below_set ?_ GE8.out) | exact HB.out)⟩
theorem number19 (s : ByteArray) (hs : s.size ≤ 1048576) (at_ : Nat) (hat : at_ < s.size) (hd : isDig (s.data.toList.getD at_ 0) = true) (k p n c a : Int) (t : ByteArray) (hr : conv at_ (scanNum (s.data.toList.drop at_)) = (k, t, p, n, c, a)) (w : World) :
  Calls Tryz.prog 48 #[.string s, .int .i64 (at_ : Int)] w fun e w' => e = .returned (.tuple #[.agg #[.int .i64 k, .string t, .int .i64 p], .int .i64 n, .int .i64 c, .int .i64 a]) ∧ Below w.heap.size w w' := by
 by_cases h1 : cnt isDig (s.data.toList.drop at_) + 1 < (s.data.toList.drop at_).length ∧ (s.data.toList.drop at_).getD (cnt isDig (s.data.toList.drop at_)) 0 = 46 ∧ isDig ((s.data.toList.drop at_).getD (cnt isDig (s.data.toList.drop at_) + 1) 0) = true
 ·exact num_dot s hs at_ hat hd h1 k p n c a t hr w
 ·exact num_int s hs at_ hat hd h1 k p n c a t hr w
def spec_l02Number.f (a0 : ByteArray) (a1 : Int) : Option (Int × ByteArray × Int × Int × Int × Int) :=
 if 0 ≤ a1 ∧ a1 < (a0.size : Int) ∧ a0.size ≤ 1048576 ∧ isDig (a0.data.toList.getD a1.toNat 0) = true then some (conv a1.toNat (scanNum (a0.data.toList.drop a1.toNat))) else none
theorem spec_l02Number.calls (a0 : ByteArray) (a1 : Int) (r1 : Int) (r2 : ByteArray) (r3 : Int) (r4 : Int) (r5 : Int) (r6 : Int) (w : World) (h : spec_l02Number.f a0 a1 = some (r1, r2, r3, r4, r5, r6)) :
  Calls Tryz.prog 48 #[.string a0, .int .i64 a1] w fun e w' => e = .returned (.tuple #[.agg #[.int .i64 r1, .string r2, .int .i64 r3], .int .i64 r4, .int .i64 r5, .int .i64 r6]) ∧ Below w.heap.size w w' := by
 unfold spec_l02Number.f at h
 by_cases hc : 0 ≤ a1 ∧ a1 < (a0.size : Int) ∧ a0.size ≤ 1048576 ∧ isDig (a0.data.toList.getD a1.toNat 0) = true
 ·rw [if_pos hc] at h
  obtain ⟨h1, h2, h3, h4⟩ := hc
  obtain ⟨n, rfl⟩ : ∃ n : Nat, a1 = (n : Int) := ⟨a1.toNat, by omega⟩
  rw [Int.toNat_natCast] at h h4
  exact number19 a0 h3 n (by omega) h4 _ _ _ _ _ _ (Option.some.inj h) w
 ·rw [if_neg hc] at h; cases h
end Go.Proofs.YtackifpnpkbddaaGreatDoorScan
