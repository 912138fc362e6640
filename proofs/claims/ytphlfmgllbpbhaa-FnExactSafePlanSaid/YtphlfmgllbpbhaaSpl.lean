/- Proved: what spec.SafePlan answers. Conditions: no list is longer than a million. -/
import Derived.Test.YtphlfmgllbpbhaaNod
namespace Go.Proofs.Ytphlfmgllbpbhaa.QFnExactSafePlan
open Go.RowKit Go.Proofs.YtphlfmgllbpbhaaW.PrintWords Go.Proofs.YtphlfmgllbpbhaaW.PrintLast Go.Proofs.YtphlfmgllbpbhaaW.PrintMore
set_option linter.unusedVariables false
set_option linter.unusedSimpArgs false
set_option maxHeartbeats 8000000 in
set_option maxRecDepth 100000 in
theorem spec5 (l : List S39) (A0 : Option Addr) (c0 : Nat) (w : World) (hr : Kd.C k39 w A0 l.length l) (hs : ∀ j, smN (l.getD j z39)) :
    Calls Try.prog 5 #[.agg #[.slice A0 l.length c0]] w fun e w' => e = .returned (.bool (l.all nodeOK)) ∧ Below w.heap.size w w' := by
  have hu := Try.underlying39
  have hv := Try.underlying29
  have HR := Aside0.mk hr
  have HM := Aside0.mk (show l.length ≤ 9223372036854775807 from hr.2.1)
  have HSS := Aside0.mk hs
  clear hr hs
  have HB := Aside0.mk (Below.refl w.heap.size w)
  go_enter Try.func5, Try.ntmps5
  go_wp2_with (first | ((with_reducible refine gate_dst (N := 1) rfl ?_); refine box_event ?hg (N := 1) ?hd (cs := #[.slice A0 l.length c0]) (t := 29) ?hr ?_; (case hd => rfl); (case hg => rfl); (case hr => first | (go_simp; done) | (go_simp; rfl)); intro b1 hg w1 hbox hb; have n0_ := Aside0.mk (below_step HB.out hb); clear HB; have HB := n0_; clear n0_; have BK1 := Aside0.mk hbox; clear hbox hg hb; have hk6 := (show w1.cell? ⟨b1, 0, none⟩ = some (.slice A0 l.length c0) from (blk_cell BK1.out 0).trans rfl)))
  go_loopw [8] (fun v w' => ∃ (n i : Nat), v = .int .i64 (i : Int) ∧ Aside0 (i + n = l.length) ∧ Aside0 (∀ j, j < i → nodeOK (l.getD j z39) = true) ∧ Aside0 (Below w.heap.size w w')) (fun v _ => l.length - (intOf v).toNat)
  case atStart => exact ⟨l.length, 0, rfl, ⟨by omega⟩, ⟨fun j hj => absurd hj (Nat.not_lt_zero _)⟩, HB⟩
  case round =>
    clear HB BK1 hk6
    obtain ⟨n, i, rfl, HI, HSM, HB⟩ := hrel
    cases n with
    | zero =>
      have hlt : decide ((i : Int) < (l.length : Int)) = false := decide_eq_false (by have := HI.out; omega)
      have hlt2 : decide (i < l.length) = false := decide_eq_false (by have := HI.out; omega)
      have HF := Aside0.mk (all_of (l := l) (p := nodeOK) z39 (fun j hj => HSM.out j (by have := HI.out; omega)))
      go_wp2
      go_ret
      exact ⟨by rw [HF.out]; rfl, HB.out⟩
    | succ n =>
      have hlt : decide ((i : Int) < (l.length : Int)) = true := decide_eq_true (by have := HI.out; omega)
      have hlt2 : decide (i < l.length) = true := decide_eq_true (by have := HI.out; omega)
      have q0 : (0 : Int) ≤ (i : Int) := by omega
      have q1 : (i : Int) < (l.length : Int) := by have := HI.out; omega
      have q2 : (i < l.length) = True := eq_true (by have := HI.out; omega)
      have HW := Aside0.mk (show wrap64 ((i : Int) + 1) = ((i + 1 : Nat) : Int) by have := HI.out; have := HM.out; unfold wrap64; omega)
      have HL := Aside0.mk (show i < l.length by have := HI.out; omega)
      obtain ⟨ad, A6, c6, A7, c7, A8, c8, A9, c9, A10, c10, ea, hx0, hx1, hx2, hx3, hx4, hx5, hx6, hx7, hx8, hx9, hx10, l6, g6, l7, g7, l8, g8, l9, g9, l10, g10⟩ := at_T39 HR.out (i : Int) q0 q1
      subst ea
      replace hx0 := (HB.out.cell (World.block_lt_of_cell? w _ hx0)).trans hx0
      replace hx1 := (HB.out.cell (World.block_lt_of_cell? w _ hx1)).trans hx1
      replace hx2 := (HB.out.cell (World.block_lt_of_cell? w _ hx2)).trans hx2
      replace hx3 := (HB.out.cell (World.block_lt_of_cell? w _ hx3)).trans hx3
      replace hx4 := (HB.out.cell (World.block_lt_of_cell? w _ hx4)).trans hx4
      replace hx5 := (HB.out.cell (World.block_lt_of_cell? w _ hx5)).trans hx5
      replace hx6 := (HB.out.cell (World.block_lt_of_cell? w _ hx6)).trans hx6
      replace hx7 := (HB.out.cell (World.block_lt_of_cell? w _ hx7)).trans hx7
      replace hx8 := (HB.out.cell (World.block_lt_of_cell? w _ hx8)).trans hx8
      replace hx9 := (HB.out.cell (World.block_lt_of_cell? w _ hx9)).trans hx9
      replace hx10 := (HB.out.cell (World.block_lt_of_cell? w _ hx10)).trans hx10
      simp only [Int.toNat_natCast] at hx0 hx1 hx2 hx3 hx4 hx5 hx6 hx7 hx8 hx9 hx10
      obtain ⟨x, hX⟩ : ∃ x, rd_T39 l (i : Int) = x := ⟨_, rfl⟩
      rw [hX] at hx0 hx1 hx2 hx3 hx4 hx5 hx6 hx7 hx8 hx9 hx10
      simp only [hX] at g6 g8
      have H6 := Aside0.mk g6
      have H8 := Aside0.mk g8
      have HXX := Aside0.mk (show l.getD i z39 = x from hX)
      have HSX := Aside0.mk (show smN x by rw [← HXX.out]; exact HSS.out i)
      clear hX g6 g8 l6 g7 l7 l8 g9 l9 g10 l10
      replace q0 := eq_true q0
      replace q1 := eq_true q1
      rcases Bool.eq_false_or_eq_true (nodeOK x) with ht | ht
      · have HT := Aside0.mk ht
        clear ht
        go_wp2_with (first | ((with_reducible refine gate_dst (N := 4) rfl ?_); refine box_event ?hg (N := 4) ?hd (cs := #[.int .i64 0, .int .i64 0, .int .i64 0, .int .i64 0, .int .i64 0, .int .i64 0, .slice none 0 0, .slice none 0 0, .slice none 0 0, .slice none 0 0, .slice none 0 0]) (t := 39) ?hr ?_; (case hd => rfl); (case hg => rfl); (case hr => first | (go_simp; done) | (go_simp; rfl)); intro b4 hg w4 hbox hb; have GE4 := Aside0.mk (show w.heap.size ≤ b4 by rw [hg]; exact below_size HB.out); have n9_ := Aside0.mk (below_step HB.out hb); clear HB; have HB := n9_; clear n9_; have BK4 := Aside0.mk hbox; clear hbox hg; have hz0 := (show w4.cell? ⟨b4, 0, none⟩ = some (.int .i64 0) from (blk_cell BK4.out 0).trans rfl); have hf0 := blk_frozen BK4.out 0; have hz1 := (show w4.cell? ⟨b4, 1, none⟩ = some (.int .i64 0) from (blk_cell BK4.out 1).trans rfl); have hf1 := blk_frozen BK4.out 1; have hz2 := (show w4.cell? ⟨b4, 2, none⟩ = some (.int .i64 0) from (blk_cell BK4.out 2).trans rfl); have hf2 := blk_frozen BK4.out 2; have hz3 := (show w4.cell? ⟨b4, 3, none⟩ = some (.int .i64 0) from (blk_cell BK4.out 3).trans rfl); have hf3 := blk_frozen BK4.out 3; have hz4 := (show w4.cell? ⟨b4, 4, none⟩ = some (.int .i64 0) from (blk_cell BK4.out 4).trans rfl); have hf4 := blk_frozen BK4.out 4; have hz5 := (show w4.cell? ⟨b4, 5, none⟩ = some (.int .i64 0) from (blk_cell BK4.out 5).trans rfl); have hf5 := blk_frozen BK4.out 5; have hz6 := (show w4.cell? ⟨b4, 6, none⟩ = some (.slice none 0 0) from (blk_cell BK4.out 6).trans rfl); have hf6 := blk_frozen BK4.out 6; have hz7 := (show w4.cell? ⟨b4, 7, none⟩ = some (.slice none 0 0) from (blk_cell BK4.out 7).trans rfl); have hf7 := blk_frozen BK4.out 7; have hz8 := (show w4.cell? ⟨b4, 8, none⟩ = some (.slice none 0 0) from (blk_cell BK4.out 8).trans rfl); have hf8 := blk_frozen BK4.out 8; have hz9 := (show w4.cell? ⟨b4, 9, none⟩ = some (.slice none 0 0) from (blk_cell BK4.out 9).trans rfl); have hf9 := blk_frozen BK4.out 9; have hz10 := (show w4.cell? ⟨b4, 10, none⟩ = some (.slice none 0 0) from (blk_cell BK4.out 10).trans rfl); have hf10 := blk_frozen BK4.out 10; skip; clear hb) | ((with_reducible refine gate_store (t := 39) (p := 4) rfl ?_); refine store_event (t := 39) (p := 4) (v := ?vo_4) (w1 := (((((((((((w4.setCell ⟨b4, 0, none⟩ (.int .i64 x.f0)).setCell ⟨b4, 1, none⟩ (.int .i64 x.f1)).setCell ⟨b4, 2, none⟩ (.int .i64 x.f2)).setCell ⟨b4, 3, none⟩ (.int .i64 x.f3)).setCell ⟨b4, 4, none⟩ (.int .i64 x.f4)).setCell ⟨b4, 5, none⟩ (.int .i64 x.f5)).setCell ⟨b4, 6, none⟩ (.slice A6 x.f6.length c6)).setCell ⟨b4, 7, none⟩ (.slice A7 x.f7.length c7)).setCell ⟨b4, 8, none⟩ (.slice A8 x.f8.length c8)).setCell ⟨b4, 9, none⟩ (.slice A9 x.f9.length c9)).setCell ⟨b4, 10, none⟩ (.slice A10 x.f10.length c10))) ?hg ?ho ?hn ?hr ?_; (case ho => rfl); (case hg => rfl); (case hn => rfl); (case hr => first | (go_simp; done) | (go_simp; rfl)); intro w7 hw; have n0_ : Aside0 (Below w.heap.size w w7) := ⟨by rw [hw]; exact (below_set (below_set (below_set (below_set (below_set (below_set (below_set (below_set (below_set (below_set (below_set HB.out GE4.out) GE4.out) GE4.out) GE4.out) GE4.out) GE4.out) GE4.out) GE4.out) GE4.out) GE4.out) GE4.out)⟩; have n1_ : Aside0 (w7.heap[b4]? = some (.cells #[.int .i64 x.f0, .int .i64 x.f1, .int .i64 x.f2, .int .i64 x.f3, .int .i64 x.f4, .int .i64 x.f5, .slice A6 x.f6.length c6, .slice A7 x.f7.length c7, .slice A8 x.f8.length c8, .slice A9 x.f9.length c9, .slice A10 x.f10.length c10] 39 (0, 0))) := ⟨by rw [hw]; exact (blk_list (blk_list (blk_list (blk_list (blk_list (blk_list (blk_list (blk_list (blk_list (blk_list (blk_list BK4.out 0 _) 1 _) 2 _) 3 _) 4 _) 5 _) 6 _) 7 _) 8 _) 9 _) 10 _)⟩; clear HB BK4 hw hz0 hf0 hz1 hf1 hz2 hf2 hz3 hf3 hz4 hf4 hz5 hf5 hz6 hf6 hz7 hf7 hz8 hf8 hz9 hf9 hz10 hf10; have HB := n0_; have BK4 := n1_; clear n0_ n1_; have hk4_0 := (show w7.cell? ⟨b4, 0, none⟩ = some (.int .i64 x.f0) from (blk_cell BK4.out 0).trans rfl); have hk4_1 := (show w7.cell? ⟨b4, 1, none⟩ = some (.int .i64 x.f1) from (blk_cell BK4.out 1).trans rfl); have hk4_2 := (show w7.cell? ⟨b4, 2, none⟩ = some (.int .i64 x.f2) from (blk_cell BK4.out 2).trans rfl); have hk4_3 := (show w7.cell? ⟨b4, 3, none⟩ = some (.int .i64 x.f3) from (blk_cell BK4.out 3).trans rfl); have hk4_4 := (show w7.cell? ⟨b4, 4, none⟩ = some (.int .i64 x.f4) from (blk_cell BK4.out 4).trans rfl); have hk4_5 := (show w7.cell? ⟨b4, 5, none⟩ = some (.int .i64 x.f5) from (blk_cell BK4.out 5).trans rfl); have hk4_6 := (show w7.cell? ⟨b4, 6, none⟩ = some (.slice A6 x.f6.length c6) from (blk_cell BK4.out 6).trans rfl); have hk4_7 := (show w7.cell? ⟨b4, 7, none⟩ = some (.slice A7 x.f7.length c7) from (blk_cell BK4.out 7).trans rfl); have hk4_8 := (show w7.cell? ⟨b4, 8, none⟩ = some (.slice A8 x.f8.length c8) from (blk_cell BK4.out 8).trans rfl); have hk4_9 := (show w7.cell? ⟨b4, 9, none⟩ = some (.slice A9 x.f9.length c9) from (blk_cell BK4.out 9).trans rfl); have hk4_10 := (show w7.cell? ⟨b4, 10, none⟩ = some (.slice A10 x.f10.length c10) from (blk_cell BK4.out 10).trans rfl)) | (go_at_call 10; (with_reducible refine (safeNode10 x A6 A7 A8 A9 A10 c6 c7 c8 c9 c10 _ (Kd.C_below H6.out HB.out) (Kd.C_below H8.out HB.out) HSX.out).mono ?_); rintro en v10 ⟨rfl, hb⟩; have n0_ := Aside0.mk (below_step HB.out hb); clear HB hb; have HB := n0_; clear n0_; rw [HT.out]))
        go_roundw
        case rel => exact ⟨n, i + 1, (by first | exact congrArg (Value.int .i64) HW.out | go_num), ⟨by have := HI.out; omega⟩, ⟨fun j hj => by
          by_cases ej : j = i
          · subst ej; rw [HXX.out]; exact HT.out
          · exact HSM.out j (by omega)⟩, HB⟩
        case measure => rw [HW.out]; have := HL.out; show l.length - ((i + 1 : Nat) : Int).toNat < l.length - ((i : Nat) : Int).toNat; omega
      · have HT := Aside0.mk ht
        have HF := Aside0.mk (all_not (l := l) (p := nodeOK) z39 HL.out (by rw [HXX.out]; exact ht))
        clear ht
        go_wp2_with (first | ((with_reducible refine gate_dst (N := 4) rfl ?_); refine box_event ?hg (N := 4) ?hd (cs := #[.int .i64 0, .int .i64 0, .int .i64 0, .int .i64 0, .int .i64 0, .int .i64 0, .slice none 0 0, .slice none 0 0, .slice none 0 0, .slice none 0 0, .slice none 0 0]) (t := 39) ?hr ?_; (case hd => rfl); (case hg => rfl); (case hr => first | (go_simp; done) | (go_simp; rfl)); intro b4 hg w4 hbox hb; have GE4 := Aside0.mk (show w.heap.size ≤ b4 by rw [hg]; exact below_size HB.out); have n9_ := Aside0.mk (below_step HB.out hb); clear HB; have HB := n9_; clear n9_; have BK4 := Aside0.mk hbox; clear hbox hg; have hz0 := (show w4.cell? ⟨b4, 0, none⟩ = some (.int .i64 0) from (blk_cell BK4.out 0).trans rfl); have hf0 := blk_frozen BK4.out 0; have hz1 := (show w4.cell? ⟨b4, 1, none⟩ = some (.int .i64 0) from (blk_cell BK4.out 1).trans rfl); have hf1 := blk_frozen BK4.out 1; have hz2 := (show w4.cell? ⟨b4, 2, none⟩ = some (.int .i64 0) from (blk_cell BK4.out 2).trans rfl); have hf2 := blk_frozen BK4.out 2; have hz3 := (show w4.cell? ⟨b4, 3, none⟩ = some (.int .i64 0) from (blk_cell BK4.out 3).trans rfl); have hf3 := blk_frozen BK4.out 3; have hz4 := (show w4.cell? ⟨b4, 4, none⟩ = some (.int .i64 0) from (blk_cell BK4.out 4).trans rfl); have hf4 := blk_frozen BK4.out 4; have hz5 := (show w4.cell? ⟨b4, 5, none⟩ = some (.int .i64 0) from (blk_cell BK4.out 5).trans rfl); have hf5 := blk_frozen BK4.out 5; have hz6 := (show w4.cell? ⟨b4, 6, none⟩ = some (.slice none 0 0) from (blk_cell BK4.out 6).trans rfl); have hf6 := blk_frozen BK4.out 6; have hz7 := (show w4.cell? ⟨b4, 7, none⟩ = some (.slice none 0 0) from (blk_cell BK4.out 7).trans rfl); have hf7 := blk_frozen BK4.out 7; have hz8 := (show w4.cell? ⟨b4, 8, none⟩ = some (.slice none 0 0) from (blk_cell BK4.out 8).trans rfl); have hf8 := blk_frozen BK4.out 8; have hz9 := (show w4.cell? ⟨b4, 9, none⟩ = some (.slice none 0 0) from (blk_cell BK4.out 9).trans rfl); have hf9 := blk_frozen BK4.out 9; have hz10 := (show w4.cell? ⟨b4, 10, none⟩ = some (.slice none 0 0) from (blk_cell BK4.out 10).trans rfl); have hf10 := blk_frozen BK4.out 10; skip; clear hb) | ((with_reducible refine gate_store (t := 39) (p := 4) rfl ?_); refine store_event (t := 39) (p := 4) (v := ?vo_4) (w1 := (((((((((((w4.setCell ⟨b4, 0, none⟩ (.int .i64 x.f0)).setCell ⟨b4, 1, none⟩ (.int .i64 x.f1)).setCell ⟨b4, 2, none⟩ (.int .i64 x.f2)).setCell ⟨b4, 3, none⟩ (.int .i64 x.f3)).setCell ⟨b4, 4, none⟩ (.int .i64 x.f4)).setCell ⟨b4, 5, none⟩ (.int .i64 x.f5)).setCell ⟨b4, 6, none⟩ (.slice A6 x.f6.length c6)).setCell ⟨b4, 7, none⟩ (.slice A7 x.f7.length c7)).setCell ⟨b4, 8, none⟩ (.slice A8 x.f8.length c8)).setCell ⟨b4, 9, none⟩ (.slice A9 x.f9.length c9)).setCell ⟨b4, 10, none⟩ (.slice A10 x.f10.length c10))) ?hg ?ho ?hn ?hr ?_; (case ho => rfl); (case hg => rfl); (case hn => rfl); (case hr => first | (go_simp; done) | (go_simp; rfl)); intro w7 hw; have n0_ : Aside0 (Below w.heap.size w w7) := ⟨by rw [hw]; exact (below_set (below_set (below_set (below_set (below_set (below_set (below_set (below_set (below_set (below_set (below_set HB.out GE4.out) GE4.out) GE4.out) GE4.out) GE4.out) GE4.out) GE4.out) GE4.out) GE4.out) GE4.out) GE4.out)⟩; have n1_ : Aside0 (w7.heap[b4]? = some (.cells #[.int .i64 x.f0, .int .i64 x.f1, .int .i64 x.f2, .int .i64 x.f3, .int .i64 x.f4, .int .i64 x.f5, .slice A6 x.f6.length c6, .slice A7 x.f7.length c7, .slice A8 x.f8.length c8, .slice A9 x.f9.length c9, .slice A10 x.f10.length c10] 39 (0, 0))) := ⟨by rw [hw]; exact (blk_list (blk_list (blk_list (blk_list (blk_list (blk_list (blk_list (blk_list (blk_list (blk_list (blk_list BK4.out 0 _) 1 _) 2 _) 3 _) 4 _) 5 _) 6 _) 7 _) 8 _) 9 _) 10 _)⟩; clear HB BK4 hw hz0 hf0 hz1 hf1 hz2 hf2 hz3 hf3 hz4 hf4 hz5 hf5 hz6 hf6 hz7 hf7 hz8 hf8 hz9 hf9 hz10 hf10; have HB := n0_; have BK4 := n1_; clear n0_ n1_; have hk4_0 := (show w7.cell? ⟨b4, 0, none⟩ = some (.int .i64 x.f0) from (blk_cell BK4.out 0).trans rfl); have hk4_1 := (show w7.cell? ⟨b4, 1, none⟩ = some (.int .i64 x.f1) from (blk_cell BK4.out 1).trans rfl); have hk4_2 := (show w7.cell? ⟨b4, 2, none⟩ = some (.int .i64 x.f2) from (blk_cell BK4.out 2).trans rfl); have hk4_3 := (show w7.cell? ⟨b4, 3, none⟩ = some (.int .i64 x.f3) from (blk_cell BK4.out 3).trans rfl); have hk4_4 := (show w7.cell? ⟨b4, 4, none⟩ = some (.int .i64 x.f4) from (blk_cell BK4.out 4).trans rfl); have hk4_5 := (show w7.cell? ⟨b4, 5, none⟩ = some (.int .i64 x.f5) from (blk_cell BK4.out 5).trans rfl); have hk4_6 := (show w7.cell? ⟨b4, 6, none⟩ = some (.slice A6 x.f6.length c6) from (blk_cell BK4.out 6).trans rfl); have hk4_7 := (show w7.cell? ⟨b4, 7, none⟩ = some (.slice A7 x.f7.length c7) from (blk_cell BK4.out 7).trans rfl); have hk4_8 := (show w7.cell? ⟨b4, 8, none⟩ = some (.slice A8 x.f8.length c8) from (blk_cell BK4.out 8).trans rfl); have hk4_9 := (show w7.cell? ⟨b4, 9, none⟩ = some (.slice A9 x.f9.length c9) from (blk_cell BK4.out 9).trans rfl); have hk4_10 := (show w7.cell? ⟨b4, 10, none⟩ = some (.slice A10 x.f10.length c10) from (blk_cell BK4.out 10).trans rfl)) | (go_at_call 10; (with_reducible refine (safeNode10 x A6 A7 A8 A9 A10 c6 c7 c8 c9 c10 _ (Kd.C_below H6.out HB.out) (Kd.C_below H8.out HB.out) HSX.out).mono ?_); rintro en v10 ⟨rfl, hb⟩; have n0_ := Aside0.mk (below_step HB.out hb); clear HB hb; have HB := n0_; clear n0_; rw [HT.out]))
        go_ret
        exact ⟨by rw [HF.out]; rfl, HB.out⟩
end Go.Proofs.Ytphlfmgllbpbhaa.QFnExactSafePlan
