/- Proved: what spec.l04Starts answers: okShape. Conditions: the list of nodes is read; none of its lists is longer than a million. -/
import Derived.Test.YtphlfmgllbpbhaaShape
namespace Go.Proofs.Ytphlfmgllbpbhaa.QFnExactSafePlan
open Go.RowKit Go.Proofs.YtphlfmgllbpbhaaW.PrintWords Go.Proofs.YtphlfmgllbpbhaaW.PrintLast Go.Proofs.YtphlfmgllbpbhaaW.PrintMore
set_option linter.unusedVariables false
set_option linter.unusedSimpArgs false
set_option maxHeartbeats 8000000 in
set_option maxRecDepth 100000 in
theorem starts29 (l : List S49) (A0 : Option Addr) (c0 : Nat) (w : World) (hr : Kd.C k49 w A0 l.length l) (hc : l.length ≤ c0) (hl : l.length ≤ 1048576) (hs : ∀ j, (l.getD j z49).f5.length ≤ 1048576) :
    Calls Try.prog 29 #[.slice A0 l.length c0] w fun e w' => ∃ v : Value, e = .returned (.tuple #[v, .bool (okShape l)]) ∧ Below w.heap.size w w' := by
  have hu := Try.underlying49
  have HR := Aside0.mk hr
  have HLL := Aside0.mk hl
  have HSS := Aside0.mk hs
  have h00 : 0 ≤ (l.length : Int) := by omega
  clear hr hl hs
  have HB := Aside0.mk (Below.refl w.heap.size w)
  go_enter Try.func29, Try.ntmps29
  go_wp2_with (first | ((with_reducible refine gate_dst (N := 11) rfl ?_); refine Kd.R_make (Kd.int .i64) _ 3 rfl (N := 11) rfl 35 _ _ rfl (l.length : Int) rfl rfl Try.underlying35 (.int .i64 0) 8 info3 rfl (by decide) (by decide) 0 (ok := fun _ => True) (okp := fun _ => True) rfl (fun _ hk => hk) trivial h00 (by have := HLL.out; simp only [Int.toNat_natCast]; omega) (Below.refl _ _) (Nat.le_refl _) ?_; intro vo w4 ho hb hg_ hn_; rw [Int.toNat_natCast] at ho; have HO := Aside0.mk (Kd.R_lower ho (below_size HB.out)); have n0_ := Aside0.mk (below_step HB.out hb); clear HB ho hb hg_ hn_; have HB := n0_; clear n0_))
  go_loopw [14] (fun v w' => ∃ (m i : Nat) (st C : List Int), v = .int .i64 (i : Int) ∧ Aside0 (i + m = l.length) ∧ Aside0 (stGo l i = some st) ∧ Aside0 (C.length = l.length ∧ C.take i = st) ∧ Aside0 (Kd.R (Kd.int .i64) 3 w' w.heap.size (fun _ => True) vo C) ∧ Aside0 (Below w.heap.size w w')) (fun v _ => l.length - (intOf v).toNat)
  case atStart => exact ⟨l.length, 0, [], _, rfl, ⟨by omega⟩, ⟨rfl⟩, ⟨List.length_replicate, rfl⟩, HO, HB⟩
  case round =>
    clear HO
    obtain ⟨m, i, st, C, rfl, HI, HST, HCC, HO, HB⟩ := hrel
    cases m with
    | zero =>
      have hlt : decide ((i : Int) < (l.length : Int)) = false := decide_eq_false (by have := HI.out; omega)
      have hlt2 : decide (i < l.length) = false := decide_eq_false (by have := HI.out; omega)
      have HE := Aside0.mk (show i = l.length by have := HI.out; omega)
      have HC2 := Aside0.mk (show C = st by rw [← HCC.out.2, HE.out, ← HCC.out.1, List.take_of_length_le (Nat.le_refl _)])
      have HSH := Aside0.mk (show okShape l = (decide (0 < l.length) && (C.getD (l.length - 1) 0 == 0)) by
        have h := HST.out
        rw [HE.out] at h
        unfold okShape
        rw [h, HC2.out])
      by_cases hp : 0 < l.length
      · obtain ⟨g, cap, e9, hge, hlt9, _⟩ := Kd.R_form HO.out (by have := HCC.out.1; omega)
        rw [HCC.out.1] at e9
        subst e9
        obtain ⟨q, hq⟩ : ∃ q : Nat, l.length = q + 1 := ⟨l.length - 1, by omega⟩
        obtain ⟨hci, _⟩ := Kd.R_celln (e := 3) (enc := Value.int .i64) (h1 := fun _ => rfl) 0 HO.out (q : Int) (by omega) (by omega)
        obtain ⟨z, hz⟩ : ∃ z, rdOf 0 C (q : Int) = z := ⟨_, rfl⟩
        rw [hz, Int.toNat_natCast] at hci
        have HF := Aside0.mk (show okShape l = (z == 0) by
          rw [HSH.out, decide_eq_true hp, Bool.true_and, show l.length - 1 = q by omega, ← hz]
          simp [rdOf])
        have p1 : decide ((0 : Int) < (l.length : Int)) = true := decide_eq_true (by omega)
        have p2 : decide (0 < l.length) = true := decide_eq_true hp
        have p3 : (0 : Int) ≤ (q : Int) := by omega
        have p4 : (q : Int) < (l.length : Int) := by omega
        have p5 : IntKind.i64.wrap ((l.length : Int) - 1) = (q : Int) := by rw [i64_w]; have := HLL.out; unfold wrap64; omega
        have p6 : wrap64 ((l.length : Int) - 1) = (q : Int) := by have := HLL.out; unfold wrap64; omega
        replace p3 := eq_true p3
        replace p4 := eq_true p4
        clear hq hz hge hlt9 hp
        go_wp2
        go_quiet (fail)
        all_goals go_wp2
        all_goals go_ret2
        all_goals exact ⟨_, by rw [HF.out]; rfl, by repeat (first | (with_reducible first | exact HB.out | apply below_alloc | apply pw_below_drewN | apply below_drew1) | exact HB.out)⟩
      · have HF := Aside0.mk (show okShape l = false by rw [HSH.out, decide_eq_false hp, Bool.false_and])
        have p1 : decide ((0 : Int) < (l.length : Int)) = false := decide_eq_false (by omega)
        have p2 : decide (0 < l.length) = false := decide_eq_false hp
        clear hp
        go_wp2
        go_quiet (fail)
        all_goals go_wp2
        all_goals go_ret2
        all_goals exact ⟨_, by rw [HF.out]; rfl, by repeat (first | (with_reducible first | exact HB.out | apply below_alloc | apply pw_below_drewN | apply below_drew1) | exact HB.out)⟩
    | succ m =>
      have hlt : decide ((i : Int) < (l.length : Int)) = true := decide_eq_true (by have := HI.out; omega)
      have hlt2 : decide (i < l.length) = true := decide_eq_true (by have := HI.out; omega)
      have HIL := Aside0.mk (show i < l.length by have := HI.out; omega)
      have q0 : (0 : Int) ≤ (i : Int) := by omega
      have q1 : (i : Int) < (l.length : Int) := by have := HI.out; omega
      have q2 : (i < l.length) = True := eq_true (by have := HI.out; omega)
      have HW := Aside0.mk (show wrap64 ((i : Int) + 1) = ((i + 1 : Nat) : Int) by have := HI.out; have := HLL.out; unfold wrap64; omega)
      obtain ⟨g, cap, e9, hge, hlt9, _⟩ := Kd.R_form HO.out (by have := HCC.out.1; have := HIL.out; omega)
      rw [HCC.out.1] at e9
      subst e9
      have GE := Aside0.mk hge
      clear hge hlt9
      obtain ⟨ad, A7, c7, ea, hx0, hx1, hx2, hx3, hx4, hx5, hx6, hx7, l7, g7⟩ := at_T49 HR.out (i : Int) q0 q1
      subst ea
      replace hx0 := (HB.out.cell (World.block_lt_of_cell? w _ hx0)).trans hx0
      replace hx1 := (HB.out.cell (World.block_lt_of_cell? w _ hx1)).trans hx1
      replace hx2 := (HB.out.cell (World.block_lt_of_cell? w _ hx2)).trans hx2
      replace hx3 := (HB.out.cell (World.block_lt_of_cell? w _ hx3)).trans hx3
      replace hx4 := (HB.out.cell (World.block_lt_of_cell? w _ hx4)).trans hx4
      replace hx5 := (HB.out.cell (World.block_lt_of_cell? w _ hx5)).trans hx5
      replace hx6 := (HB.out.cell (World.block_lt_of_cell? w _ hx6)).trans hx6
      replace hx7 := (HB.out.cell (World.block_lt_of_cell? w _ hx7)).trans hx7
      simp only [Int.toNat_natCast] at hx0 hx1 hx2 hx3 hx4 hx5 hx6 hx7
      obtain ⟨x, hX⟩ : ∃ x, rd_T49 l (i : Int) = x := ⟨_, rfl⟩
      rw [hX] at hx0 hx1 hx2 hx3 hx4 hx5 hx6 hx7
      simp only [hX] at l7 g7
      have G7 := Aside0.mk g7
      have HXX := Aside0.mk (show l.getD i z49 = x from hX)
      have HXL := Aside0.mk (show x.f5.length ≤ 1048576 by rw [← HXX.out]; exact HSS.out i)
      have hxl : (x.f5.length : Int) ≤ 1048576 := by have := HXL.out; omega
      have hil : (i : Int) ≤ 1048576 := by have := HLL.out; omega
      have HSTP := Aside0.mk (show stGo l (i + 1) = (stIn st x.f5 x.f5.length (i : Int)).map fun s => st ++ [s] by rw [stGo_step HST.out, HXX.out])
      have HOK := Aside0.mk (stGo_ok i st HST.out)
      replace q0 := eq_true q0
      replace q1 := eq_true q1
      clear hX l7 g7
      have boxed : True := trivial
      by_cases hgt : i < x.f5.length
      · have d1 : decide ((i : Int) < (x.f5.length : Int)) = true := decide_eq_true (by omega)
        have d2 : decide (i < x.f5.length) = true := decide_eq_true hgt
        have HF := Aside0.mk (show okShape l = false from shape_none HIL.out (by
          rw [HSTP.out]
          cases hq : stIn st x.f5 x.f5.length (i : Int) with
          | none => rfl
          | some r => exact absurd (stIn_ok HOK.out.2 _ _ r (by omega) (by rw [HOK.out.1]; exact Int.le_refl _) hq).2.2 (by omega)))
        clear hgt
        go_wp2_with (first
          | ((with_reducible refine gate_dst (N := 6) rfl ?_); refine box_event ?hg (N := 6) ?hd (cs := #[.int .i64 0, .int .i64 0, .int .i64 0, .int .i64 0, .int .i64 0, .int .i64 0, .string ⟨#[]⟩, .slice none 0 0]) (t := 49) ?hr ?_; (case hd => rfl); (case hg => rfl); (case hr => first | (go_simp; done) | (go_simp; rfl)); intro b6 hg w6 hbox hb; have GE6 := Aside0.mk (show w.heap.size ≤ b6 by rw [hg]; exact below_size HB.out); have n9_ := Aside0.mk (below_step HB.out hb); have n8_ := Aside0.mk (Kd.R_below (Kd.R_elderB HO.out b6 (Nat.le_of_eq hg.symm)) hb); clear HB HO; have HB := n9_; have HO := n8_; clear n9_ n8_; have NG := Aside0.mk (HO.out.1 g rfl).2; have BK := Aside0.mk hbox; clear hbox hg hb; have hz0 := (show w6.cell? ⟨b6, 0, none⟩ = some (.int .i64 0) from (blk_cell BK.out 0).trans rfl); have hf0 := blk_frozen BK.out 0; have hz1 := (show w6.cell? ⟨b6, 1, none⟩ = some (.int .i64 0) from (blk_cell BK.out 1).trans rfl); have hf1 := blk_frozen BK.out 1; have hz2 := (show w6.cell? ⟨b6, 2, none⟩ = some (.int .i64 0) from (blk_cell BK.out 2).trans rfl); have hf2 := blk_frozen BK.out 2; have hz3 := (show w6.cell? ⟨b6, 3, none⟩ = some (.int .i64 0) from (blk_cell BK.out 3).trans rfl); have hf3 := blk_frozen BK.out 3; have hz4 := (show w6.cell? ⟨b6, 4, none⟩ = some (.int .i64 0) from (blk_cell BK.out 4).trans rfl); have hf4 := blk_frozen BK.out 4; have hz5 := (show w6.cell? ⟨b6, 5, none⟩ = some (.int .i64 0) from (blk_cell BK.out 5).trans rfl); have hf5 := blk_frozen BK.out 5; have hz6 := (show w6.cell? ⟨b6, 6, none⟩ = some (.string ⟨#[]⟩) from (blk_cell BK.out 6).trans rfl); have hf6 := blk_frozen BK.out 6; have hz7 := (show w6.cell? ⟨b6, 7, none⟩ = some (.slice none 0 0) from (blk_cell BK.out 7).trans rfl); have hf7 := blk_frozen BK.out 7)
          | ((with_reducible refine gate_store (t := 49) (p := 6) rfl ?_); refine store_event (t := 49) (p := 6) (v := ?vo_w7a) (w1 := ((((((((w6.setCell ⟨b6, 0, none⟩ (.int .i64 x.f0)).setCell ⟨b6, 1, none⟩ (.int .i64 x.f1)).setCell ⟨b6, 2, none⟩ (.int .i64 x.f2)).setCell ⟨b6, 3, none⟩ (.int .i64 x.f3)).setCell ⟨b6, 4, none⟩ (.int .i64 x.f4.f0)).setCell ⟨b6, 5, none⟩ (.int .i64 x.f4.f1)).setCell ⟨b6, 6, none⟩ (.string x.f4.f2)).setCell ⟨b6, 7, none⟩ (.slice A7 x.f5.length c7))) ?hg ?ho ?hn ?hr ?_; (case ho => rfl); (case hg => rfl); (case hn => rfl); (case hr => first | (go_simp; done) | (go_simp; rfl)); intro w7 hw; have n0_ : Aside0 (Below w.heap.size w w7) := ⟨by rw [hw]; exact (below_set (below_set (below_set (below_set (below_set (below_set (below_set (below_set HB.out GE6.out) GE6.out) GE6.out) GE6.out) GE6.out) GE6.out) GE6.out) GE6.out)⟩; have n1_ : Aside0 (w7.heap[b6]? = some (.cells #[.int .i64 x.f0, .int .i64 x.f1, .int .i64 x.f2, .int .i64 x.f3, .int .i64 x.f4.f0, .int .i64 x.f4.f1, .string x.f4.f2, .slice A7 x.f5.length c7] 49 (0, 0))) := ⟨by rw [hw]; exact (blk_list (blk_list (blk_list (blk_list (blk_list (blk_list (blk_list (blk_list BK.out 0 _) 1 _) 2 _) 3 _) 4 _) 5 _) 6 _) 7 _)⟩; have n2_ : Aside0 (Kd.R (Kd.int .i64) 3 w7 w.heap.size (fun _ => True) (.slice (some ⟨g, 0, none⟩) l.length cap) C) := ⟨by rw [hw]; exact Kd.R_mono ((Kd.R_far (p := ⟨b6, 7, none⟩) (Kd.R_far (p := ⟨b6, 6, none⟩) (Kd.R_far (p := ⟨b6, 5, none⟩) (Kd.R_far (p := ⟨b6, 4, none⟩) (Kd.R_far (p := ⟨b6, 3, none⟩) (Kd.R_far (p := ⟨b6, 2, none⟩) (Kd.R_far (p := ⟨b6, 1, none⟩) (Kd.R_far (p := ⟨b6, 0, none⟩) HO.out (fun k hk => hk.2) _) (fun k hk => hk.2) _) (fun k hk => hk.2) _) (fun k hk => hk.2) _) (fun k hk => hk.2) _) (fun k hk => hk.2) _) (fun k hk => hk.2) _) (fun k hk => hk.2) _)) (fun _ _ => trivial)⟩; clear HB BK HO hw hz0 hz1 hz2 hz3 hz4 hz5 hz6 hz7 hf0 hf1 hf2 hf3 hf4 hf5 hf6 hf7; have HB := n0_; have BK := n1_; have HO := n2_; clear n0_ n1_ n2_; have hk7 := (show w7.cell? ⟨b6, 7, none⟩ = some (.slice A7 x.f5.length c7) from (blk_cell BK.out 7).trans rfl)))
        go_ret2
        exact ⟨_, by rw [HF.out]; rfl, HB.out⟩
      · have d1 : decide ((i : Int) < (x.f5.length : Int)) = false := decide_eq_false (by omega)
        have d2 : decide (i < x.f5.length) = false := decide_eq_false hgt
        clear hgt
        go_wp2_with (first
          | ((with_reducible refine gate_dst (N := 6) rfl ?_); refine box_event ?hg (N := 6) ?hd (cs := #[.int .i64 0, .int .i64 0, .int .i64 0, .int .i64 0, .int .i64 0, .int .i64 0, .string ⟨#[]⟩, .slice none 0 0]) (t := 49) ?hr ?_; (case hd => rfl); (case hg => rfl); (case hr => first | (go_simp; done) | (go_simp; rfl)); intro b6 hg w6 hbox hb; have GE6 := Aside0.mk (show w.heap.size ≤ b6 by rw [hg]; exact below_size HB.out); have n9_ := Aside0.mk (below_step HB.out hb); have n8_ := Aside0.mk (Kd.R_below (Kd.R_elderB HO.out b6 (Nat.le_of_eq hg.symm)) hb); clear HB HO; have HB := n9_; have HO := n8_; clear n9_ n8_; have NG := Aside0.mk (HO.out.1 g rfl).2; have BK := Aside0.mk hbox; clear hbox hg hb; have hz0 := (show w6.cell? ⟨b6, 0, none⟩ = some (.int .i64 0) from (blk_cell BK.out 0).trans rfl); have hf0 := blk_frozen BK.out 0; have hz1 := (show w6.cell? ⟨b6, 1, none⟩ = some (.int .i64 0) from (blk_cell BK.out 1).trans rfl); have hf1 := blk_frozen BK.out 1; have hz2 := (show w6.cell? ⟨b6, 2, none⟩ = some (.int .i64 0) from (blk_cell BK.out 2).trans rfl); have hf2 := blk_frozen BK.out 2; have hz3 := (show w6.cell? ⟨b6, 3, none⟩ = some (.int .i64 0) from (blk_cell BK.out 3).trans rfl); have hf3 := blk_frozen BK.out 3; have hz4 := (show w6.cell? ⟨b6, 4, none⟩ = some (.int .i64 0) from (blk_cell BK.out 4).trans rfl); have hf4 := blk_frozen BK.out 4; have hz5 := (show w6.cell? ⟨b6, 5, none⟩ = some (.int .i64 0) from (blk_cell BK.out 5).trans rfl); have hf5 := blk_frozen BK.out 5; have hz6 := (show w6.cell? ⟨b6, 6, none⟩ = some (.string ⟨#[]⟩) from (blk_cell BK.out 6).trans rfl); have hf6 := blk_frozen BK.out 6; have hz7 := (show w6.cell? ⟨b6, 7, none⟩ = some (.slice none 0 0) from (blk_cell BK.out 7).trans rfl); have hf7 := blk_frozen BK.out 7)
          | ((with_reducible refine gate_store (t := 49) (p := 6) rfl ?_); refine store_event (t := 49) (p := 6) (v := ?vo_w7b) (w1 := ((((((((w6.setCell ⟨b6, 0, none⟩ (.int .i64 x.f0)).setCell ⟨b6, 1, none⟩ (.int .i64 x.f1)).setCell ⟨b6, 2, none⟩ (.int .i64 x.f2)).setCell ⟨b6, 3, none⟩ (.int .i64 x.f3)).setCell ⟨b6, 4, none⟩ (.int .i64 x.f4.f0)).setCell ⟨b6, 5, none⟩ (.int .i64 x.f4.f1)).setCell ⟨b6, 6, none⟩ (.string x.f4.f2)).setCell ⟨b6, 7, none⟩ (.slice A7 x.f5.length c7))) ?hg ?ho ?hn ?hr ?_; (case ho => rfl); (case hg => rfl); (case hn => rfl); (case hr => first | (go_simp; done) | (go_simp; rfl)); intro w7 hw; have n0_ : Aside0 (Below w.heap.size w w7) := ⟨by rw [hw]; exact (below_set (below_set (below_set (below_set (below_set (below_set (below_set (below_set HB.out GE6.out) GE6.out) GE6.out) GE6.out) GE6.out) GE6.out) GE6.out) GE6.out)⟩; have n1_ : Aside0 (w7.heap[b6]? = some (.cells #[.int .i64 x.f0, .int .i64 x.f1, .int .i64 x.f2, .int .i64 x.f3, .int .i64 x.f4.f0, .int .i64 x.f4.f1, .string x.f4.f2, .slice A7 x.f5.length c7] 49 (0, 0))) := ⟨by rw [hw]; exact (blk_list (blk_list (blk_list (blk_list (blk_list (blk_list (blk_list (blk_list BK.out 0 _) 1 _) 2 _) 3 _) 4 _) 5 _) 6 _) 7 _)⟩; have n2_ : Aside0 (Kd.R (Kd.int .i64) 3 w7 w.heap.size (fun _ => True) (.slice (some ⟨g, 0, none⟩) l.length cap) C) := ⟨by rw [hw]; exact Kd.R_mono ((Kd.R_far (p := ⟨b6, 7, none⟩) (Kd.R_far (p := ⟨b6, 6, none⟩) (Kd.R_far (p := ⟨b6, 5, none⟩) (Kd.R_far (p := ⟨b6, 4, none⟩) (Kd.R_far (p := ⟨b6, 3, none⟩) (Kd.R_far (p := ⟨b6, 2, none⟩) (Kd.R_far (p := ⟨b6, 1, none⟩) (Kd.R_far (p := ⟨b6, 0, none⟩) HO.out (fun k hk => hk.2) _) (fun k hk => hk.2) _) (fun k hk => hk.2) _) (fun k hk => hk.2) _) (fun k hk => hk.2) _) (fun k hk => hk.2) _) (fun k hk => hk.2) _) (fun k hk => hk.2) _)) (fun _ _ => trivial)⟩; clear HB BK HO hw hz0 hz1 hz2 hz3 hz4 hz5 hz6 hz7 hf0 hf1 hf2 hf3 hf4 hf5 hf6 hf7; have HB := n0_; have BK := n1_; have HO := n2_; clear n0_ n1_ n2_; have hk7 := (show w7.cell? ⟨b6, 7, none⟩ = some (.slice A7 x.f5.length c7) from (blk_cell BK.out 7).trans rfl); obtain ⟨hci, hfi⟩ := Kd.R_celln (e := 3) (enc := Value.int .i64) (h1 := fun _ => rfl) 0 HO.out (i : Int) (of_eq_true q0) (of_eq_true q1); rw [Int.toNat_natCast] at hci hfi)
          | ((with_reducible refine gate_store (t := 3) (p := 28) rfl ?_); refine store_event (t := 3) (p := 28) (v := ?vo_w8) (w1 := (w7.setCell ⟨g, i, none⟩ (.int .i64 (i : Int)))) ?hg ?ho ?hn ?hr ?_; (case ho => rfl); (case hg => rfl); (case hn => rfl); (case hr => first | (go_simp; done) | (go_simp; rfl)); intro w8 hw; have hp := Kd.R_putn HO.out (i : Int) (i : Int); rw [Int.toNat_natCast] at hp; have n0_ : Aside0 (Below w.heap.size w w8) := ⟨by rw [hw]; exact below_set HB.out GE.out⟩; have n1_ : Aside0 (w8.heap[b6]? = some (.cells #[.int .i64 x.f0, .int .i64 x.f1, .int .i64 x.f2, .int .i64 x.f3, .int .i64 x.f4.f0, .int .i64 x.f4.f1, .string x.f4.f2, .slice A7 x.f5.length c7] 49 (0, 0))) := ⟨by rw [hw]; exact blk_far (p := ⟨g, i, none⟩) BK.out NG.out.symm _⟩; have n2_ : Aside0 (Kd.R (Kd.int .i64) 3 w8 w.heap.size (fun _ => True) (.slice (some ⟨g, 0, none⟩) l.length cap) (C.set i (i : Int))) := ⟨by rw [hw]; exact hp⟩; clear HB BK HO hw hp; have HB := n0_; have BK := n1_; have HO := n2_; clear n0_ n1_ n2_; have hk7w8 := (show w8.cell? ⟨b6, 7, none⟩ = some (.slice A7 x.f5.length c7) from (blk_cell BK.out 7).trans rfl)))
        obtain ⟨wo, hwo⟩ : ∃ wo : World, wo = wr := ⟨_, rfl⟩
        clear hwo
        go_loopw [7, 8] (fun v7 v8 w' => ∃ (k : Nat) (j s : Int) (C' : List Int), v7 = .int .i64 j ∧ Aside0 (j = (k : Int) - 1 ∧ k ≤ x.f5.length) ∧ Aside0 (stIn st x.f5 x.f5.length (i : Int) = stIn st x.f5 k s) ∧ Aside0 (C'.length = l.length ∧ C'.take i = st ∧ C'.getD i 0 = s ∧ 0 ≤ s ∧ s ≤ (i : Int)) ∧ Aside0 (Kd.R (Kd.int .i64) 3 w' w.heap.size (fun _ => True) (.slice (some ⟨g, 0, none⟩) l.length cap) C') ∧ Aside0 (w'.heap[b6]? = some (.cells #[.int .i64 x.f0, .int .i64 x.f1, .int .i64 x.f2, .int .i64 x.f3, .int .i64 x.f4.f0, .int .i64 x.f4.f1, .string x.f4.f2, .slice A7 x.f5.length c7] 49 (0, 0))) ∧ Aside0 (Below w.heap.size w w')) (fun v7 _ _ => (intOf v7 + 1).toNat)
        case atStart => exact ⟨x.f5.length, _, (i : Int), C.set i (i : Int), rfl, ⟨rfl, Nat.le_refl _⟩, ⟨rfl⟩, ⟨by rw [List.length_set]; exact HCC.out.1, set_take HCC.out.2 _, set_getD _ _ _ (by rw [HCC.out.1]; exact HIL.out), by omega, Int.le_refl _⟩, HO, BK, HB⟩
        case round =>
          clear HO BK HB
          obtain ⟨k, j, s, C', rfl, HJ, HIN, HC', HO, BK, HB⟩ := hrel
          have hk7 := (show wr.cell? ⟨b6, 7, none⟩ = some (.slice A7 x.f5.length c7) from (blk_cell BK.out 7).trans rfl)
          cases k with
          | zero =>
            obtain rfl : j = -1 := by have := HJ.out.1; omega
            have HNX := Aside0.mk (show stGo l (i + 1) = some (st ++ [s]) by rw [HSTP.out, HIN.out]; rfl)
            go_wp2
            go_roundw
            case rel => exact ⟨m, i + 1, st ++ [s], C', (by first | exact congrArg (Value.int .i64) HW.out | go_num), ⟨by have := HI.out; omega⟩, HNX, ⟨HC'.out.1, by rw [take_snoc HC'.out.2.1 (by rw [HC'.out.1]; exact HIL.out), HC'.out.2.2.1]⟩, HO, HB⟩
            case measure => have := HIL.out; simp [intOf]; omega
          | succ k =>
            obtain rfl : j = (k : Int) := by have := HJ.out.1; omega
            have hkl : k < x.f5.length := by have := HJ.out.2; omega
            have r0 : (0 : Int) ≤ (k : Int) := by omega
            have r1 : (k : Int) < (x.f5.length : Int) := by omega
            have hkb : (k : Int) ≤ 1048576 := by omega
            obtain ⟨ak, ek, hxk⟩ := Kd.at_int (Kd.C_below G7.out HB.out) (k : Int) r0 r1
            subst ek
            obtain ⟨kv, hkv⟩ : ∃ kv, rd x.f5 (k : Int) = kv := ⟨_, rfl⟩
            rw [hkv, Int.toNat_natCast] at hxk
            have HKV := Aside0.mk (show x.f5.getD k 0 = kv by rw [← hkv]; rfl)
            obtain ⟨hci, hfi⟩ := Kd.R_celln (e := 3) (enc := Value.int .i64) (h1 := fun _ => rfl) 0 HO.out (i : Int) (by omega) (by have := HIL.out; omega)
            rw [Int.toNat_natCast] at hci hfi
            rw [show rdOf 0 C' (i : Int) = s by rw [← HC'.out.2.2.1]; rfl] at hci
            have hs0 := HC'.out.2.2.2.1
            have hs1 := HC'.out.2.2.2.2
            have r2 : ((k : Int) < (x.f5.length : Int)) = True := eq_true r1
            have r3 : (k < x.f5.length) = True := eq_true hkl
            have r4 : ((0 : Int) ≤ (k : Int)) = True := eq_true r0
            clear hkv r0 r1 hkl
            by_cases c0 : s = 0
            · subst c0
              have HF := Aside0.mk (show okShape l = false from shape_none HIL.out (by rw [HSTP.out, HIN.out]; unfold stIn; rw [if_pos (.inl rfl)]; rfl))
              go_wp2
              go_ret2
              exact ⟨_, by rw [HF.out]; rfl, HB.out⟩
            · have d3 : (s == 0) = false := by simp [c0]
              by_cases c1 : kv = s - 1
              · have d4 : (kv != s - 1) = false := by simp [c1]
                have v0 : 0 ≤ kv := by omega
                have v1 : kv < (l.length : Int) := by have := HIL.out; omega
                obtain ⟨hcv, _⟩ := Kd.R_celln (e := 3) (enc := Value.int .i64) (h1 := fun _ => rfl) 0 HO.out kv v0 v1
                obtain ⟨s', hs'⟩ : ∃ s', rdOf 0 C' kv = s' := ⟨_, rfl⟩
                rw [hs'] at hcv
                have HS' := Aside0.mk (show st.getD (s - 1).toNat 0 = s' by rw [← hs', ← take_getD HC'.out.2.1 (show (s - 1).toNat < i by omega), ← c1]; rfl)
                have HB' := Aside0.mk (show 0 ≤ s' ∧ s' ≤ (i : Int) by have h := HOK.out.2 (s - 1).toNat (by rw [HOK.out.1]; omega); rw [HS'.out] at h; exact ⟨h.1, by omega⟩)
                have HIN2 := Aside0.mk (show stIn st x.f5 x.f5.length (i : Int) = stIn st x.f5 k s' by rw [HIN.out]; conv => lhs; unfold stIn; rw [if_neg (by rw [HKV.out]; exact fun h => h.elim c0 (fun h => h c1)), HS'.out])
                replace v0 := eq_true v0
                replace v1 := eq_true v1
                clear hs' c0 c1
                go_wp2_with (first
                  | ((with_reducible refine gate_store (t := 3) (p := 63) rfl ?_); refine store_event (t := 3) (p := 63) (v := ?vo_w9) (w1 := (wr.setCell ⟨g, i, none⟩ (.int .i64 s'))) ?hg ?ho ?hn ?hr ?_; (case ho => rfl); (case hg => rfl); (case hn => rfl); (case hr => first | (go_simp; done) | (go_simp; rfl)); intro w9 hw; have hp := Kd.R_putn HO.out (i : Int) s'; rw [Int.toNat_natCast] at hp; have n0_ : Aside0 (Below w.heap.size w w9) := ⟨by rw [hw]; exact below_set HB.out GE.out⟩; have n1_ : Aside0 (w9.heap[b6]? = some (.cells #[.int .i64 x.f0, .int .i64 x.f1, .int .i64 x.f2, .int .i64 x.f3, .int .i64 x.f4.f0, .int .i64 x.f4.f1, .string x.f4.f2, .slice (some ak) x.f5.length c7] 49 (0, 0))) := ⟨by rw [hw]; exact blk_far (p := ⟨g, i, none⟩) BK.out NG.out.symm _⟩; have n2_ : Aside0 (Kd.R (Kd.int .i64) 3 w9 w.heap.size (fun _ => True) (.slice (some ⟨g, 0, none⟩) l.length cap) (C'.set i s')) := ⟨by rw [hw]; exact hp⟩; clear HB BK HO hw hp; have HB := n0_; have BK := n1_; have HO := n2_; clear n0_ n1_ n2_; have hk7w9 := (show w9.cell? ⟨b6, 7, none⟩ = some (.slice (some ak) x.f5.length c7) from (blk_cell BK.out 7).trans rfl)))
                go_roundw
                case rel => exact ⟨k, _, s', C'.set i s', rfl, ⟨rfl, by have := HJ.out.2; omega⟩, HIN2, ⟨by rw [List.length_set]; exact HC'.out.1, set_take HC'.out.2.1 _, set_getD _ _ _ (by rw [HC'.out.1]; exact HIL.out), HB'.out.1, HB'.out.2⟩, HO, BK, HB⟩
                case measure => show ((k : Int) - 1 + 1).toNat < ((k : Int) + 1).toNat; omega
              · have d4 : (kv != s - 1) = true := by simp [c1]
                have HF := Aside0.mk (show okShape l = false from shape_none HIL.out (by rw [HSTP.out, HIN.out]; unfold stIn; rw [if_pos (.inr (by rw [HKV.out]; exact c1))]; rfl))
                clear c0 c1
                go_wp2
                go_ret2
                exact ⟨_, by rw [HF.out]; rfl, HB.out⟩
end Go.Proofs.Ytphlfmgllbpbhaa.QFnExactSafePlan
