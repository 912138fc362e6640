/- Proved: what impl.shape and impl.exprShape answer: okShape. Conditions: the list of nodes is read; none of its lists is longer than a million. -/
import Derived.Test.YtphlfmgllbpbhaaStarts
import Derived.RegionTactic
import Derived.ChangeAlike
namespace Go.Proofs.Ytphlfmgllbpbhaa.QFnExactSafePlan
open Go.RowKit Go.Proofs.YtphlfmgllbpbhaaW.PrintWords Go.Proofs.YtphlfmgllbpbhaaW.PrintLast Go.Proofs.YtphlfmgllbpbhaaW.PrintMore
set_option linter.unusedVariables false
set_option linter.unusedSimpArgs false
set_option maxHeartbeats 4000000 in
theorem kids37 (gb n c0 m c7 i : Nat) (ad : Addr) (A7 : Option Addr) (w : World) (hb : w.heap[gb]? = some (.cells #[.slice (some ad) n c0] 44 (0, 0))) (hx : w.cell? ⟨(ad.add (i * 8)).block, (ad.add (i * 8)).off + 7, none⟩ = some (.slice A7 m c7)) (hi : i < n) :
    Calls Try.prog 37 #[.int .i64 (i : Int), .pointer (some ⟨gb, 0, none⟩)] w fun e w' => e = .returned (.slice A7 m c7) ∧ w = w' := by
  have hu := Try.underlying49
  have hv := Try.underlying44
  have hc0 := blk_cell hb 0
  have q0 : ((0 : Int) ≤ (i : Int)) = True := eq_true (by omega)
  have q1 : ((i : Int) < (n : Int)) = True := eq_true (by omega)
  have q2 : (i < n) = True := eq_true hi
  have HB := Aside0.mk hb
  clear hb hi
  go_enter Try.func37, Try.ntmps37
  go_wp2
  go_ret
  exact ⟨rfl, rfl⟩
theorem getD_set_ne (C : List Int) (i j : Nat) (v : Int) (h : i ≠ j) : (C.set i v).getD j 0 = C.getD j 0 := by simp [List.getD, h]
/-- The sizes, told by where the parts begin. -/
def Sizes (C st : List Int) (i : Nat) : Prop := ∀ j, j < i → C.getD j 0 = (j : Int) - st.getD j 0 + 1
theorem sizes_set {C st : List Int} {i : Nat} (h : Sizes C st i) (v : Int) : Sizes (C.set i v) st i := fun j hj => by rw [getD_set_ne C i j v (by omega)]; exact h j hj
theorem sizes_snoc {C st : List Int} {i : Nat} (h : Sizes C st i) (hl : st.length = i) (s : Int) (hi : C.getD i 0 = (i : Int) - s + 1) : Sizes C (st ++ [s]) (i + 1) := fun j hj => by
  by_cases e : j = i
  · subst e
    rw [hi, show (st ++ [s]).getD j 0 = s by simp only [List.getD_eq_getElem?_getD, List.getElem?_append_right (Nat.le_of_eq hl), hl, Nat.sub_self]; rfl]
  · rw [h j (by omega), show (st ++ [s]).getD j 0 = st.getD j 0 by simp only [List.getD_eq_getElem?_getD, List.getElem?_append_left (show j < st.length by omega)]]
set_option maxHeartbeats 8000000 in
set_option maxRecDepth 100000 in
theorem shape36 (l : List S49) (A0 : Option Addr) (c0 gb : Nat) (w : World) (hr : Kd.C k49 w A0 l.length l) (hbk : w.heap[gb]? = some (.cells #[.slice A0 l.length c0] 44 (0, 0))) (hl : l.length ≤ 1048576) (hs : ∀ j, (l.getD j z49).f5.length ≤ 1048576) :
    Calls Try.prog 36 #[.int .i64 (l.length : Int), .func (.func 37) #[] #[.pointer (some ⟨gb, 0, none⟩)]] w fun e w' => ∃ v : Value, e = .returned (.tuple #[v, .bool (okShape l)]) ∧ Below w.heap.size w w' := by
  have hu := Try.underlying49
  have HR := Aside0.mk hr
  have HLL := Aside0.mk hl
  have HSS := Aside0.mk hs
  have HBK := Aside0.mk hbk
  have h00 : 0 ≤ (l.length : Int) := by omega
  clear hr hl hs hbk
  have HB := Aside0.mk (Below.refl w.heap.size w)
  go_enter Try.func36, Try.ntmps36
  go_wp2_with (first | ((with_reducible refine gate_dst (N := 12) rfl ?_); refine Kd.R_make (Kd.int .i64) _ 3 rfl (N := 12) rfl 35 _ _ rfl (l.length : Int) rfl rfl Try.underlying35 (.int .i64 0) 8 info3 rfl (by decide) (by decide) 0 (ok := fun _ => True) (okp := fun _ => True) rfl (fun _ hk => hk) trivial h00 (by have := HLL.out; simp only [Int.toNat_natCast]; omega) (Below.refl _ _) (Nat.le_refl _) ?_; intro vo w4 ho hb hg_ hn_; rw [Int.toNat_natCast] at ho; have HO := Aside0.mk (Kd.R_lower ho (below_size HB.out)); have n0_ := Aside0.mk (below_step HB.out hb); clear HB ho hb hg_ hn_; have HB := n0_; clear n0_))
  go_loopw [14] (fun v w' => ∃ (m i : Nat) (st C : List Int), v = .int .i64 (i : Int) ∧ Aside0 (i + m = l.length) ∧ Aside0 (stGo l i = some st) ∧ Aside0 (C.length = l.length ∧ Sizes C st i) ∧ Aside0 (Kd.R (Kd.int .i64) 3 w' w.heap.size (fun _ => True) vo C) ∧ Aside0 (Below w.heap.size w w')) (fun v _ => l.length - (intOf v).toNat)
  case atStart => exact ⟨l.length, 0, [], _, rfl, ⟨by omega⟩, ⟨rfl⟩, ⟨List.length_replicate, fun j hj => absurd hj (Nat.not_lt_zero _)⟩, HO, HB⟩
  case round =>
    clear HO
    obtain ⟨m, i, st, C, rfl, HI, HST, HCC, HO, HB⟩ := hrel
    have HOK := Aside0.mk (stGo_ok i st HST.out)
    cases m with
    | zero =>
      have hlt : decide ((i : Int) < (l.length : Int)) = false := decide_eq_false (by have := HI.out; omega)
      have hlt2 : decide (i < l.length) = false := decide_eq_false (by have := HI.out; omega)
      have HE := Aside0.mk (show i = l.length by have := HI.out; omega)
      have HSH := Aside0.mk (show okShape l = (decide (0 < l.length) && (st.getD (l.length - 1) 0 == 0)) by
        have h := HST.out
        rw [HE.out] at h
        unfold okShape
        rw [h])
      by_cases hp : 0 < l.length
      · obtain ⟨g, cap, e9, hge, hlt9, _⟩ := Kd.R_form HO.out (by have := HCC.out.1; omega)
        rw [HCC.out.1] at e9
        subst e9
        obtain ⟨q, hq⟩ : ∃ q : Nat, l.length = q + 1 := ⟨l.length - 1, by omega⟩
        obtain ⟨hci, _⟩ := Kd.R_celln (e := 3) (enc := Value.int .i64) (h1 := fun _ => rfl) 0 HO.out (q : Int) (by omega) (by omega)
        obtain ⟨z, hz⟩ : ∃ z, rdOf 0 C (q : Int) = z := ⟨_, rfl⟩
        rw [hz, Int.toNat_natCast] at hci
        have HF := Aside0.mk (show okShape l = (z == (l.length : Int)) by
          have h1 : C.getD q 0 = z := hz
          have h2 := HCC.out.2 q (by have := HE.out; omega)
          rw [HSH.out, decide_eq_true hp, Bool.true_and, show l.length - 1 = q by omega, Bool.eq_iff_iff]
          simp only [beq_iff_eq]
          omega)
        have p1 : decide ((0 : Int) < (l.length : Int)) = true := decide_eq_true (by omega)
        have p2 : decide (0 < l.length) = true := decide_eq_true hp
        have p3 : (0 : Int) ≤ (q : Int) := by omega
        have p4 : (q : Int) < (l.length : Int) := by omega
        have p5 : IntKind.i64.wrap ((l.length : Int) - 1) = (q : Int) := by rw [i64_w]; have := HLL.out; unfold wrap64; omega
        have p6 : wrap64 ((l.length : Int) - 1) = (q : Int) := by have := HLL.out; unfold wrap64; omega
        replace p3 := eq_true p3
        replace p4 := eq_true p4
        clear hq hz hge hlt9 hp
        go_wp2
        go_quiet (fail)
        all_goals go_wp2
        all_goals go_ret2
        all_goals exact ⟨_, by rw [HF.out]; rfl, by repeat (first | (with_reducible first | exact HB.out | apply below_alloc | apply pw_below_drewN | apply below_drew1) | exact HB.out)⟩
      · have HF := Aside0.mk (show okShape l = false by rw [HSH.out, decide_eq_false hp, Bool.false_and])
        have p1 : decide ((0 : Int) < (l.length : Int)) = false := decide_eq_false (by omega)
        have p2 : decide (0 < l.length) = false := decide_eq_false hp
        clear hp
        go_wp2
        go_quiet (fail)
        all_goals go_wp2
        all_goals go_ret2
        all_goals exact ⟨_, by rw [HF.out]; rfl, by repeat (first | (with_reducible first | exact HB.out | apply below_alloc | apply pw_below_drewN | apply below_drew1) | exact HB.out)⟩
    | succ m =>
      have hlt : decide ((i : Int) < (l.length : Int)) = true := decide_eq_true (by have := HI.out; omega)
      have hlt2 : decide (i < l.length) = true := decide_eq_true (by have := HI.out; omega)
      have HIL := Aside0.mk (show i < l.length by have := HI.out; omega)
      have q0 : (0 : Int) ≤ (i : Int) := by omega
      have q1 : (i : Int) < (l.length : Int) := by have := HI.out; omega
      have q2 : (i < l.length) = True := eq_true (by have := HI.out; omega)
      have HW := Aside0.mk (show wrap64 ((i : Int) + 1) = ((i + 1 : Nat) : Int) by have := HI.out; have := HLL.out; unfold wrap64; omega)
      obtain ⟨g, cap, e9, hge, hlt9, _⟩ := Kd.R_form HO.out (by have := HCC.out.1; have := HIL.out; omega)
      rw [HCC.out.1] at e9
      subst e9
      have GE := Aside0.mk hge
      clear hge hlt9
      obtain ⟨ad, A7, c7, ea, _, _, _, _, _, _, _, hx7, l7, g7⟩ := at_T49 HR.out (i : Int) q0 q1
      subst ea
      obtain ⟨x, hX⟩ : ∃ x, rd_T49 l (i : Int) = x := ⟨_, rfl⟩
      rw [hX, Int.toNat_natCast] at hx7
      simp only [hX] at l7 g7
      have G7 := Aside0.mk g7
      have HX7 := Aside0.mk hx7
      have HXX := Aside0.mk (show l.getD i z49 = x from hX)
      have HXL := Aside0.mk (show x.f5.length ≤ 1048576 by rw [← HXX.out]; exact HSS.out i)
      have hxl : (x.f5.length : Int) ≤ 1048576 := by have := HXL.out; omega
      have hil : (i : Int) ≤ 1048576 := by have := HLL.out; omega
      have HSTP := Aside0.mk (show stGo l (i + 1) = (stIn st x.f5 x.f5.length (i : Int)).map fun s => st ++ [s] by rw [stGo_step HST.out, HXX.out])
      obtain ⟨hci, hfi⟩ := Kd.R_celln (e := 3) (enc := Value.int .i64) (h1 := fun _ => rfl) 0 HO.out (i : Int) q0 q1
      rw [Int.toNat_natCast] at hci hfi
      replace q0 := eq_true q0
      replace q1 := eq_true q1
      clear hX l7 g7 hx7
      go_wp2_with (first
        | ((with_reducible refine gate_store (t := 3) (p := 19) rfl ?_); refine store_event (t := 3) (p := 19) (v := ?vo_w8) (w1 := (wr.setCell ⟨g, i, none⟩ (.int .i64 1))) ?hg ?ho ?hn ?hr ?_; (case ho => rfl); (case hg => rfl); (case hn => rfl); (case hr => first | (go_simp; done) | (go_simp; rfl)); intro w8 hw; have hp := Kd.R_putn HO.out (i : Int) 1; rw [Int.toNat_natCast] at hp; have n0_ : Aside0 (Below w.heap.size w w8) := ⟨by rw [hw]; exact below_set HB.out GE.out⟩; have n2_ : Aside0 (Kd.R (Kd.int .i64) 3 w8 w.heap.size (fun _ => True) (.slice (some ⟨g, 0, none⟩) l.length cap) (C.set i 1)) := ⟨by rw [hw]; exact hp⟩; clear HB HO hw hp hci hfi; have HB := n0_; have HO := n2_; clear n0_ n2_)
        | (go_at_call 37; (with_reducible refine (kids37 gb l.length c0 x.f5.length c7 i ad A7 _ (blk_below HBK.out HB.out) ((HB.out.cell (World.block_lt_of_cell? w _ HX7.out)).trans HX7.out) HIL.out).mono ?_); rintro e w9 ⟨rfl, rfl⟩))
      obtain ⟨wo, hwo⟩ : ∃ wo : World, wo = wr := ⟨_, rfl⟩
      clear hwo
      go_loopw [8, 10] (fun v8 v10 w' => ∃ (k : Nat) (t j s : Int) (C' : List Int), v8 = .int .i64 t ∧ v10 = .int .i64 j ∧ Aside0 (t = s - 1 ∧ j = (k : Int) - 1 ∧ k ≤ x.f5.length) ∧ Aside0 (stIn st x.f5 x.f5.length (i : Int) = stIn st x.f5 k s) ∧ Aside0 (C'.length = l.length ∧ Sizes C' st i ∧ C'.getD i 0 = (i : Int) - s + 1 ∧ 0 ≤ s ∧ s ≤ (i : Int)) ∧ Aside0 (Kd.R (Kd.int .i64) 3 w' w.heap.size (fun _ => True) (.slice (some ⟨g, 0, none⟩) l.length cap) C') ∧ Aside0 (Below w.heap.size w w')) (fun _ v10 _ => (intOf v10 + 1).toNat)
      case atStart => exact ⟨x.f5.length, _, _, (i : Int), C.set i 1, rfl, rfl, ⟨rfl, rfl, Nat.le_refl _⟩, ⟨rfl⟩, ⟨by rw [List.length_set]; exact HCC.out.1, sizes_set HCC.out.2 _, by rw [set_getD _ _ _ (by rw [HCC.out.1]; exact HIL.out)]; omega, by omega, Int.le_refl _⟩, HO, HB⟩
      case round =>
        clear HO HB
        obtain ⟨k, t, j, s, C', rfl, rfl, HJ, HIN, HC', HO, HB⟩ := hrel
        have hs0 := HC'.out.2.2.2.1
        have hs1 := HC'.out.2.2.2.2
        have ht0 : -1 ≤ t := by have := HJ.out.1; omega
        have ht1 : t < (i : Int) := by have := HJ.out.1; omega
        cases k with
        | zero =>
          obtain rfl : j = -1 := by have := HJ.out.2.1; omega
          have HNX := Aside0.mk (show stGo l (i + 1) = some (st ++ [s]) by rw [HSTP.out, HIN.out]; rfl)
          have d3 : decide (t < -1) = false := decide_eq_false (by omega)
          go_wp2
          go_roundw
          case rel => exact ⟨m, i + 1, st ++ [s], C', (by first | exact congrArg (Value.int .i64) HW.out | go_num), ⟨by have := HI.out; omega⟩, HNX, ⟨HC'.out.1, sizes_snoc HC'.out.2.1 HOK.out.1 s HC'.out.2.2.1⟩, HO, HB⟩
          case measure => have := HIL.out; simp [intOf]; omega
        | succ k =>
          obtain rfl : j = (k : Int) := by have := HJ.out.2.1; omega
          have hkl : k < x.f5.length := by have := HJ.out.2.2; omega
          have r0 : (0 : Int) ≤ (k : Int) := by omega
          have r1 : (k : Int) < (x.f5.length : Int) := by omega
          have hkb : (k : Int) ≤ 1048576 := by omega
          obtain ⟨ak, ek, hxk⟩ := Kd.at_int (Kd.C_below G7.out HB.out) (k : Int) r0 r1
          subst ek
          obtain ⟨kv, hkv⟩ : ∃ kv, rd x.f5 (k : Int) = kv := ⟨_, rfl⟩
          rw [hkv, Int.toNat_natCast] at hxk
          have HKV := Aside0.mk (show x.f5.getD k 0 = kv by rw [← hkv]; rfl)
          have r2 : ((k : Int) < (x.f5.length : Int)) = True := eq_true r1
          have r3 : (k < x.f5.length) = True := eq_true hkl
          have r4 : ((0 : Int) ≤ (k : Int)) = True := eq_true r0
          clear hkv r0 r1 hkl
          by_cases c0 : s = 0
          · have d3 : decide (t < 0) = true := decide_eq_true (by have := HJ.out.1; omega)
            have HF := Aside0.mk (show okShape l = false from shape_none HIL.out (by rw [HSTP.out, HIN.out]; unfold stIn; rw [if_pos (.inl c0)]; rfl))
            clear c0
            go_wp2
            go_ret2
            exact ⟨_, by rw [HF.out]; rfl, HB.out⟩
          · have d3 : decide (t < 0) = false := decide_eq_false (by have := HJ.out.1; omega)
            by_cases c1 : kv = t
            · subst c1
              have d4 : (kv != kv) = false := by simp
              have v0 : 0 ≤ kv := by have := HJ.out.1; omega
              have v1 : kv < (l.length : Int) := by have := HIL.out; omega
              obtain ⟨hcv, _⟩ := Kd.R_celln (e := 3) (enc := Value.int .i64) (h1 := fun _ => rfl) 0 HO.out kv v0 v1
              obtain ⟨b, hb⟩ : ∃ b, rdOf 0 C' kv = b := ⟨_, rfl⟩
              rw [hb] at hcv
              obtain ⟨hci, hfi⟩ := Kd.R_celln (e := 3) (enc := Value.int .i64) (h1 := fun _ => rfl) 0 HO.out (i : Int) (by omega) (by have := HIL.out; omega)
              obtain ⟨a, ha⟩ : ∃ a, rdOf 0 C' (i : Int) = a := ⟨_, rfl⟩
              rw [ha] at hci
              rw [Int.toNat_natCast] at hci hfi
              obtain ⟨s', hs'⟩ : ∃ s', st.getD (s - 1).toNat 0 = s' := ⟨_, rfl⟩
              have hB' : 0 ≤ s' ∧ s' ≤ s - 1 := by have h := HOK.out.2 (s - 1).toNat (by rw [HOK.out.1]; omega); rw [hs'] at h; exact ⟨h.1, by omega⟩
              have hbv : b = s - s' := by
                have h1 : C'.getD kv.toNat 0 = b := hb
                have h2 := HC'.out.2.1 kv.toNat (by omega)
                rw [h1, show kv.toNat = (s - 1).toNat by have := HJ.out.1; omega, hs'] at h2
                have := HJ.out.1
                omega
              have hav : a = (i : Int) - s + 1 := by
                have h1 : C'.getD i 0 = a := ha
                rw [← h1]; exact HC'.out.2.2.1
              have HIN2 := Aside0.mk (show stIn st x.f5 x.f5.length (i : Int) = stIn st x.f5 k s' by rw [HIN.out]; conv => lhs; unfold stIn; rw [if_neg (by rw [HKV.out]; exact fun h => h.elim c0 (fun h => h HJ.out.1)), hs'])
              have HB' := Aside0.mk hB'
              have HABV := Aside0.mk (And.intro hbv hav)
              obtain ⟨ab, hab⟩ : ∃ ab, a + b = ab := ⟨_, rfl⟩
              have HAB := Aside0.mk (show ab = (i : Int) - s' + 1 by omega)
              have p5 : IntKind.i64.wrap (a + b) = ab := by rw [i64_w]; unfold wrap64; omega
              have p6 : wrap64 (a + b) = ab := by unfold wrap64; omega
              obtain ⟨t2, ht2⟩ : ∃ t2, kv - b = t2 := ⟨_, rfl⟩
              have HT2 := Aside0.mk (show t2 = s' - 1 by have := HJ.out.1; omega)
              have p7 : wrap64 (kv - b) = t2 := by unfold wrap64; omega
              have p8 : IntKind.i64.wrap (kv - b) = t2 := by rw [i64_w]; unfold wrap64; omega
              have hne : ¬ kv.toNat = i := by omega
              have hne2 : ¬ i = kv.toNat := by omega
              have HP := Aside0.mk (Kd.R_drew (Kd.R_putn HO.out (i : Int) ab))
              have HWT := Aside0.mk (show wrap64 t2 = t2 by have h1 := HT2.out; have h2 := HB'.out; unfold wrap64; omega)
              have HWA := Aside0.mk (show wrap64 ab = ab by have h1 := HAB.out; have h2 := HB'.out; unfold wrap64; omega)
              have q3 : ((i : Int) < (l.length : Int)) = True := eq_true (by have := HIL.out; omega)
              replace v0 := eq_true v0
              replace v1 := eq_true v1
              clear hs' hb ha hB' hbv hav c0
              go_wp2
              go_region
              all_goals go_wp2
              all_goals go_roundw
              case rel => exact ⟨k, t2, _, s', C'.set i ab, (by rw [HWT.out]), rfl, ⟨HT2.out, rfl, by have := HJ.out.2.2; omega⟩, HIN2, ⟨by rw [List.length_set]; exact HC'.out.1, sizes_set HC'.out.2.1 _, by rw [set_getD _ _ _ (by rw [HC'.out.1]; exact HIL.out)]; exact HAB.out, HB'.out.1, by have := HB'.out.2; omega⟩, ⟨by rw [HWA.out]; have h := HP.out; rw [Int.toNat_natCast] at h; exact h⟩, ⟨below_drew1 (below_set HB.out GE.out)⟩⟩
              case measure => show ((k : Int) - 1 + 1).toNat < ((k : Int) + 1).toNat; omega
            · have d4 : (kv != t) = true := by simp [c1]
              have HF := Aside0.mk (show okShape l = false from shape_none HIL.out (by rw [HSTP.out, HIN.out]; unfold stIn; rw [if_pos (.inr (by rw [HKV.out, ← HJ.out.1]; exact c1))]; rfl))
              clear c0 c1
              go_wp2
              go_ret2
              exact ⟨_, by rw [HF.out]; rfl, HB.out⟩
end Go.Proofs.Ytphlfmgllbpbhaa.QFnExactSafePlan
