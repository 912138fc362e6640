/- Proved: what spec.l07SafeExpr answers, where the text can be told. -/
import Derived.Test.YtphlfmgllbpbhaaKs
namespace Go.Proofs.Ytphlfmgllbpbhaa.QFnExactSafePlan
open Go.RowKit Go.Proofs.YtphlfmgllbpbhaaW.PrintWords Go.Proofs.YtphlfmgllbpbhaaW.PrintLast Go.Proofs.YtphlfmgllbpbhaaW.PrintMore
set_option linter.unusedVariables false
set_option linter.unusedSimpArgs false
/-- Does a node make its expression unsafe? -/
def badX (l : List S49) (x : S49) : Bool := (x.f0 == 13) || failB x.f0 x.f2 (rd_T49 l (rd x.f5 0)).f1
def exprSafe (l : List S49) : Bool := l.all fun x => !badX l x
theorem safe_yes {l : List S49} (h : ∀ j, j < l.length → badX l (l.getD j z49) = false) : exprSafe l = true := by
  unfold exprSafe
  rw [List.all_eq_true]
  intro x hx
  obtain ⟨j, hj, rfl⟩ := List.getElem_of_mem hx
  have := h j hj
  simpa [List.getD, hj] using this
theorem safe_no {l : List S49} {j : Nat} (hj : j < l.length) (h : badX l (l.getD j z49) = true) : exprSafe l = false := by
  cases hq : exprSafe l with
  | false => rfl
  | true =>
    unfold exprSafe at hq
    rw [List.all_eq_true] at hq
    have := hq (l.getD j z49) (by simp [List.getD, hj])
    rw [h] at this
    cases this
theorem bad_1 {l : List S49} {x : S49} (h : x.f0 = 13) : badX l x = true := by simp [badX, h]
theorem bad_2 {l : List S49} {x : S49} (h : failB x.f0 x.f2 (rd_T49 l (rd x.f5 0)).f1 = true) : badX l x = true := by simp [badX, h]
theorem bad_3 {l : List S49} {x : S49} (h : x.f0 ≠ 13) (h2 : failB x.f0 x.f2 (rd_T49 l (rd x.f5 0)).f1 = false) : badX l x = false := by simp [badX, h, h2]
theorem fail_or (l : List S49) (x : S49) : failB x.f0 x.f2 (rd_T49 l (rd x.f5 0)).f1 = true ∨ failB x.f0 x.f2 (rd_T49 l (rd x.f5 0)).f1 = false := by cases failB x.f0 x.f2 (rd_T49 l (rd x.f5 0)).f1 <;> simp
theorem table_shape {l : List S49} (h : tableB l = true) : okShape l = true := by
  unfold tableB at h
  simp only [Bool.and_eq_true] at h
  exact h.1.2
theorem table_len {l : List S49} (h : tableB l = true) : l.length ≤ 400 := by
  unfold tableB at h
  simp only [Bool.and_eq_true, decide_eq_true_eq] at h
  exact h.1.1.2
theorem table_told {l : List S49} (h : tableB l = true) (j : Nat) (hj : j < l.length) : toldX (l.getD j z49) = true := by
  unfold tableB allTold at h
  simp only [Bool.and_eq_true] at h
  have h2 := List.all_eq_true.1 h.2
  exact h2 _ (by simp [List.getD, hj])
theorem told_3 {x : S49} (h : toldX x = true) (e : x.f0 = 3) : 1 ≤ x.f2 := by
  unfold toldX toldB binB at h
  rw [e] at h
  simp at h
  omega
theorem told_9 {x : S49} (h : toldX x = true) (e : x.f0 = 9) : x.f5.length = 1 := by
  unfold toldX toldB at h
  rw [e] at h
  simp at h
  omega
set_option maxHeartbeats 8000000 in
set_option maxRecDepth 100000 in
theorem safeExpr18 (l : List S49) (A0 : Option Addr) (c0 : Nat) (w : World) (hr : Kd.C k49 w A0 l.length l) (hl : l.length ≤ 1048576) (ht : tableB l = true) :
    Calls Try.prog 18 #[.agg #[.slice A0 l.length c0]] w fun e w' => e = .returned (.bool (exprSafe l)) ∧ Below w.heap.size w w' := by
  have hu := Try.underlying49
  have hv := Try.underlying44
  have HR := Aside0.mk hr
  have HM := Aside0.mk (show l.length ≤ 9223372036854775807 from hr.2.1)
  have HTB := Aside0.mk ht
  clear hr ht
  have HB := Aside0.mk (Below.refl w.heap.size w)
  go_enter Try.func18, Try.ntmps18
  go_wp2_with (first | ((with_reducible refine gate_dst (N := 1) rfl ?_); refine box_event ?hg (N := 1) ?hd (cs := #[.slice A0 l.length c0]) (t := 44) ?hr ?_; (case hd => rfl); (case hg => rfl); (case hr => first | (go_simp; done) | (go_simp; rfl)); intro b1 hg w1 hbox hb; have n0_ := Aside0.mk (below_step HB.out hb); clear HB; have HB := n0_; clear n0_; have BK1 := Aside0.mk hbox; clear hbox hg hb; have hc1_0 := (show w1.cell? ⟨b1, 0, none⟩ = some (.slice A0 l.length c0) from (blk_cell BK1.out 0).trans rfl)))
  go_loopw [8] (fun v w' => ∃ (n i : Nat), v = .int .i64 (i : Int) ∧ Aside0 (i + n = l.length) ∧ Aside0 (∀ j, j < i → badX l (l.getD j z49) = false) ∧ Aside0 (w'.heap[b1]? = some (.cells #[.slice A0 l.length c0] 44 (0, 0))) ∧ Aside0 (Below w.heap.size w w')) (fun v _ => l.length - (intOf v).toNat)
  case atStart => exact ⟨l.length, 0, rfl, ⟨by omega⟩, ⟨fun j hj => absurd hj (Nat.not_lt_zero _)⟩, BK1, HB⟩
  case round =>
    clear HB BK1 hc1_0
    obtain ⟨n, i, rfl, HI, HSM, BK1, HB⟩ := hrel
    cases n with
    | zero =>
      have hlt : decide ((i : Int) < (l.length : Int)) = false := decide_eq_false (by have := HI.out; omega)
      have hlt2 : decide (i < l.length) = false := decide_eq_false (by have := HI.out; omega)
      have HA := Aside0.mk (safe_yes (l := l) (fun j hj => HSM.out j (by have := HI.out; omega)))
      go_wp2
      go_ret
      exact ⟨by rw [HA.out]; rfl, HB.out⟩
    | succ n =>
      have hlt : decide ((i : Int) < (l.length : Int)) = true := decide_eq_true (by have := HI.out; omega)
      have hlt2 : decide (i < l.length) = true := decide_eq_true (by have := HI.out; omega)
      have q0 : (0 : Int) ≤ (i : Int) := by omega
      have q1 : (i : Int) < (l.length : Int) := by have := HI.out; omega
      have q2 : (i < l.length) = True := eq_true (by have := HI.out; omega)
      have HW := Aside0.mk (show wrap64 ((i : Int) + 1) = ((i + 1 : Nat) : Int) by have := HI.out; have := HM.out; unfold wrap64; omega)
      have HL := Aside0.mk (show i < l.length by have := HI.out; omega)
      obtain ⟨ad, A7, c7, ea, hx0, hx1, hx2, hx3, hx4, hx5, hx6, hx7, l7, g7⟩ := at_T49 HR.out (i : Int) q0 q1
      subst ea
      replace hx0 := (HB.out.cell (World.block_lt_of_cell? w _ hx0)).trans hx0
      replace hx1 := (HB.out.cell (World.block_lt_of_cell? w _ hx1)).trans hx1
      replace hx2 := (HB.out.cell (World.block_lt_of_cell? w _ hx2)).trans hx2
      replace hx3 := (HB.out.cell (World.block_lt_of_cell? w _ hx3)).trans hx3
      replace hx4 := (HB.out.cell (World.block_lt_of_cell? w _ hx4)).trans hx4
      replace hx5 := (HB.out.cell (World.block_lt_of_cell? w _ hx5)).trans hx5
      replace hx6 := (HB.out.cell (World.block_lt_of_cell? w _ hx6)).trans hx6
      replace hx7 := (HB.out.cell (World.block_lt_of_cell? w _ hx7)).trans hx7
      simp only [Int.toNat_natCast] at hx0 hx1 hx2 hx3 hx4 hx5 hx6 hx7
      obtain ⟨x, hX⟩ : ∃ x, rd_T49 l (i : Int) = x := ⟨_, rfl⟩
      rw [hX] at hx0 hx1 hx2 hx3 hx4 hx5 hx6 hx7
      simp only [hX] at g7 l7
      have HR7 := Aside0.mk g7
      have HXX := Aside0.mk (show l.getD i z49 = x from hX)
      clear hX g7 l7
      replace q0 := eq_true q0
      replace q1 := eq_true q1
      have HTX := Aside0.mk (show toldX x = true by rw [← HXX.out]; exact table_told HTB.out i HL.out)
      have H9 := Aside0.mk (show x.f0 = 9 → 0 < x.f5.length ∧ 0 ≤ rd x.f5 0 ∧ rd x.f5 0 < (l.length : Int) from fun e => by
        have h1 := told_9 HTX.out e
        have h2 := shape_kids (table_shape HTB.out) i HL.out 0 (by rw [HXX.out]; omega)
        rw [HXX.out] at h2
        exact ⟨by omega, h2.1, h2.2⟩)
      by_cases o : x.f0 = 13
      · have d1 : (x.f0 == 13) = true := by simp [o]
        have HA := Aside0.mk (safe_no (l := l) HL.out (by rw [HXX.out]; exact bad_1 o))
        clear o
        go_wp2_with (first
          | ((with_reducible refine gate_dst (N := 4) rfl ?_); refine box_event ?hg (N := 4) ?hd (cs := #[.int .i64 0, .int .i64 0, .int .i64 0, .int .i64 0, .int .i64 0, .int .i64 0, .string ⟨#[]⟩, .slice none 0 0]) (t := 49) ?hr ?_; (case hd => rfl); (case hg => rfl); (case hr => first | (go_simp; done) | (go_simp; rfl)); intro b4 hg w4 hbox hb; have GE4 := Aside0.mk (show w.heap.size ≤ b4 by rw [hg]; exact below_size HB.out); have n9_ := Aside0.mk (below_step HB.out hb); clear HB; have HB := n9_; clear n9_; have BK4 := Aside0.mk hbox; clear hbox hg; have hz0 := (show w4.cell? ⟨b4, 0, none⟩ = some (.int .i64 0) from (blk_cell BK4.out 0).trans rfl); have hf0 := blk_frozen BK4.out 0; have hz1 := (show w4.cell? ⟨b4, 1, none⟩ = some (.int .i64 0) from (blk_cell BK4.out 1).trans rfl); have hf1 := blk_frozen BK4.out 1; have hz2 := (show w4.cell? ⟨b4, 2, none⟩ = some (.int .i64 0) from (blk_cell BK4.out 2).trans rfl); have hf2 := blk_frozen BK4.out 2; have hz3 := (show w4.cell? ⟨b4, 3, none⟩ = some (.int .i64 0) from (blk_cell BK4.out 3).trans rfl); have hf3 := blk_frozen BK4.out 3; have hz4 := (show w4.cell? ⟨b4, 4, none⟩ = some (.int .i64 0) from (blk_cell BK4.out 4).trans rfl); have hf4 := blk_frozen BK4.out 4; have hz5 := (show w4.cell? ⟨b4, 5, none⟩ = some (.int .i64 0) from (blk_cell BK4.out 5).trans rfl); have hf5 := blk_frozen BK4.out 5; have hz6 := (show w4.cell? ⟨b4, 6, none⟩ = some (.string ⟨#[]⟩) from (blk_cell BK4.out 6).trans rfl); have hf6 := blk_frozen BK4.out 6; have hz7 := (show w4.cell? ⟨b4, 7, none⟩ = some (.slice none 0 0) from (blk_cell BK4.out 7).trans rfl); have hf7 := blk_frozen BK4.out 7; have k_ := Aside0.mk (blk_below BK1.out hb); clear BK1; have BK1 := k_; clear k_; have NE4_0 := Aside0.mk (blk_ne BK1.out BK4.out (by decide)); clear hb)
          | ((with_reducible refine gate_store (t := 49) (p := 4) rfl ?_); refine store_event (t := 49) (p := 4) (v := ?vo_4) (w1 := ((((((((w4.setCell ⟨b4, 0, none⟩ (.int .i64 x.f0)).setCell ⟨b4, 1, none⟩ (.int .i64 x.f1)).setCell ⟨b4, 2, none⟩ (.int .i64 x.f2)).setCell ⟨b4, 3, none⟩ (.int .i64 x.f3)).setCell ⟨b4, 4, none⟩ (.int .i64 x.f4.f0)).setCell ⟨b4, 5, none⟩ (.int .i64 x.f4.f1)).setCell ⟨b4, 6, none⟩ (.string x.f4.f2)).setCell ⟨b4, 7, none⟩ (.slice A7 x.f5.length c7))) ?hg ?ho ?hn ?hr ?_; (case ho => rfl); (case hg => rfl); (case hn => rfl); (case hr => first | (go_simp; done) | (go_simp; rfl)); intro w7 hw; have n0_ : Aside0 (Below w.heap.size w w7) := ⟨by rw [hw]; exact (below_set (below_set (below_set (below_set (below_set (below_set (below_set (below_set HB.out GE4.out) GE4.out) GE4.out) GE4.out) GE4.out) GE4.out) GE4.out) GE4.out)⟩; have n1_ : Aside0 (w7.heap[b4]? = some (.cells #[.int .i64 x.f0, .int .i64 x.f1, .int .i64 x.f2, .int .i64 x.f3, .int .i64 x.f4.f0, .int .i64 x.f4.f1, .string x.f4.f2, .slice A7 x.f5.length c7] 49 (0, 0))) := ⟨by rw [hw]; exact (blk_list (blk_list (blk_list (blk_list (blk_list (blk_list (blk_list (blk_list BK4.out 0 _) 1 _) 2 _) 3 _) 4 _) 5 _) 6 _) 7 _)⟩; have kk0_ : Aside0 (w7.heap[b1]? = some (.cells #[.slice (some ad) l.length c0] 44 (0, 0))) := ⟨by rw [hw]; exact (blk_far (p := ⟨b4, 7, none⟩) (blk_far (p := ⟨b4, 6, none⟩) (blk_far (p := ⟨b4, 5, none⟩) (blk_far (p := ⟨b4, 4, none⟩) (blk_far (p := ⟨b4, 3, none⟩) (blk_far (p := ⟨b4, 2, none⟩) (blk_far (p := ⟨b4, 1, none⟩) (blk_far (p := ⟨b4, 0, none⟩) BK1.out NE4_0.out _) NE4_0.out _) NE4_0.out _) NE4_0.out _) NE4_0.out _) NE4_0.out _) NE4_0.out _) NE4_0.out _)⟩; clear HB BK4 BK1 hw hz0 hf0 hz1 hf1 hz2 hf2 hz3 hf3 hz4 hf4 hz5 hf5 hz6 hf6 hz7 hf7; have HB := n0_; have BK4 := n1_; clear n0_ n1_; have BK1 := kk0_; clear kk0_; have hk4_0 := (show w7.cell? ⟨b4, 0, none⟩ = some (.int .i64 x.f0) from (blk_cell BK4.out 0).trans rfl); have hk4_1 := (show w7.cell? ⟨b4, 1, none⟩ = some (.int .i64 x.f1) from (blk_cell BK4.out 1).trans rfl); have hk4_2 := (show w7.cell? ⟨b4, 2, none⟩ = some (.int .i64 x.f2) from (blk_cell BK4.out 2).trans rfl); have hk4_3 := (show w7.cell? ⟨b4, 3, none⟩ = some (.int .i64 x.f3) from (blk_cell BK4.out 3).trans rfl); have hk4_4 := (show w7.cell? ⟨b4, 4, none⟩ = some (.int .i64 x.f4.f0) from (blk_cell BK4.out 4).trans rfl); have hk4_5 := (show w7.cell? ⟨b4, 5, none⟩ = some (.int .i64 x.f4.f1) from (blk_cell BK4.out 5).trans rfl); have hk4_6 := (show w7.cell? ⟨b4, 6, none⟩ = some (.string x.f4.f2) from (blk_cell BK4.out 6).trans rfl); have hk4_7 := (show w7.cell? ⟨b4, 7, none⟩ = some (.slice A7 x.f5.length c7) from (blk_cell BK4.out 7).trans rfl); have hc1_0 := (show w7.cell? ⟨b1, 0, none⟩ = some (.slice (some ad) l.length c0) from (blk_cell BK1.out 0).trans rfl)))
        go_ret
        exact ⟨by rw [HA.out]; rfl, HB.out⟩
      · have d1 : (x.f0 == 13) = false := by simp [o]
        rcases fail_or l x with hf | hf
        ·
          have HFB := Aside0.mk hf
          have HA := Aside0.mk (safe_no (l := l) HL.out (by rw [HXX.out]; exact bad_2 hf))
          clear hf o
          go_wp2_with (first
            | ((with_reducible refine gate_dst (N := 4) rfl ?_); refine box_event ?hg (N := 4) ?hd (cs := #[.int .i64 0, .int .i64 0, .int .i64 0, .int .i64 0, .int .i64 0, .int .i64 0, .string ⟨#[]⟩, .slice none 0 0]) (t := 49) ?hr ?_; (case hd => rfl); (case hg => rfl); (case hr => first | (go_simp; done) | (go_simp; rfl)); intro b4 hg w4 hbox hb; have GE4 := Aside0.mk (show w.heap.size ≤ b4 by rw [hg]; exact below_size HB.out); have n9_ := Aside0.mk (below_step HB.out hb); clear HB; have HB := n9_; clear n9_; have BK4 := Aside0.mk hbox; clear hbox hg; have hz0 := (show w4.cell? ⟨b4, 0, none⟩ = some (.int .i64 0) from (blk_cell BK4.out 0).trans rfl); have hf0 := blk_frozen BK4.out 0; have hz1 := (show w4.cell? ⟨b4, 1, none⟩ = some (.int .i64 0) from (blk_cell BK4.out 1).trans rfl); have hf1 := blk_frozen BK4.out 1; have hz2 := (show w4.cell? ⟨b4, 2, none⟩ = some (.int .i64 0) from (blk_cell BK4.out 2).trans rfl); have hf2 := blk_frozen BK4.out 2; have hz3 := (show w4.cell? ⟨b4, 3, none⟩ = some (.int .i64 0) from (blk_cell BK4.out 3).trans rfl); have hf3 := blk_frozen BK4.out 3; have hz4 := (show w4.cell? ⟨b4, 4, none⟩ = some (.int .i64 0) from (blk_cell BK4.out 4).trans rfl); have hf4 := blk_frozen BK4.out 4; have hz5 := (show w4.cell? ⟨b4, 5, none⟩ = some (.int .i64 0) from (blk_cell BK4.out 5).trans rfl); have hf5 := blk_frozen BK4.out 5; have hz6 := (show w4.cell? ⟨b4, 6, none⟩ = some (.string ⟨#[]⟩) from (blk_cell BK4.out 6).trans rfl); have hf6 := blk_frozen BK4.out 6; have hz7 := (show w4.cell? ⟨b4, 7, none⟩ = some (.slice none 0 0) from (blk_cell BK4.out 7).trans rfl); have hf7 := blk_frozen BK4.out 7; have k_ := Aside0.mk (blk_below BK1.out hb); clear BK1; have BK1 := k_; clear k_; have NE4_0 := Aside0.mk (blk_ne BK1.out BK4.out (by decide)); clear hb)
            | ((with_reducible refine gate_store (t := 49) (p := 4) rfl ?_); refine store_event (t := 49) (p := 4) (v := ?vo_4) (w1 := ((((((((w4.setCell ⟨b4, 0, none⟩ (.int .i64 x.f0)).setCell ⟨b4, 1, none⟩ (.int .i64 x.f1)).setCell ⟨b4, 2, none⟩ (.int .i64 x.f2)).setCell ⟨b4, 3, none⟩ (.int .i64 x.f3)).setCell ⟨b4, 4, none⟩ (.int .i64 x.f4.f0)).setCell ⟨b4, 5, none⟩ (.int .i64 x.f4.f1)).setCell ⟨b4, 6, none⟩ (.string x.f4.f2)).setCell ⟨b4, 7, none⟩ (.slice A7 x.f5.length c7))) ?hg ?ho ?hn ?hr ?_; (case ho => rfl); (case hg => rfl); (case hn => rfl); (case hr => first | (go_simp; done) | (go_simp; rfl)); intro w7 hw; have n0_ : Aside0 (Below w.heap.size w w7) := ⟨by rw [hw]; exact (below_set (below_set (below_set (below_set (below_set (below_set (below_set (below_set HB.out GE4.out) GE4.out) GE4.out) GE4.out) GE4.out) GE4.out) GE4.out) GE4.out)⟩; have n1_ : Aside0 (w7.heap[b4]? = some (.cells #[.int .i64 x.f0, .int .i64 x.f1, .int .i64 x.f2, .int .i64 x.f3, .int .i64 x.f4.f0, .int .i64 x.f4.f1, .string x.f4.f2, .slice A7 x.f5.length c7] 49 (0, 0))) := ⟨by rw [hw]; exact (blk_list (blk_list (blk_list (blk_list (blk_list (blk_list (blk_list (blk_list BK4.out 0 _) 1 _) 2 _) 3 _) 4 _) 5 _) 6 _) 7 _)⟩; have kk0_ : Aside0 (w7.heap[b1]? = some (.cells #[.slice (some ad) l.length c0] 44 (0, 0))) := ⟨by rw [hw]; exact (blk_far (p := ⟨b4, 7, none⟩) (blk_far (p := ⟨b4, 6, none⟩) (blk_far (p := ⟨b4, 5, none⟩) (blk_far (p := ⟨b4, 4, none⟩) (blk_far (p := ⟨b4, 3, none⟩) (blk_far (p := ⟨b4, 2, none⟩) (blk_far (p := ⟨b4, 1, none⟩) (blk_far (p := ⟨b4, 0, none⟩) BK1.out NE4_0.out _) NE4_0.out _) NE4_0.out _) NE4_0.out _) NE4_0.out _) NE4_0.out _) NE4_0.out _) NE4_0.out _)⟩; clear HB BK4 BK1 hw hz0 hf0 hz1 hf1 hz2 hf2 hz3 hf3 hz4 hf4 hz5 hf5 hz6 hf6 hz7 hf7; have HB := n0_; have BK4 := n1_; clear n0_ n1_; have BK1 := kk0_; clear kk0_; have hk4_0 := (show w7.cell? ⟨b4, 0, none⟩ = some (.int .i64 x.f0) from (blk_cell BK4.out 0).trans rfl); have hk4_1 := (show w7.cell? ⟨b4, 1, none⟩ = some (.int .i64 x.f1) from (blk_cell BK4.out 1).trans rfl); have hk4_2 := (show w7.cell? ⟨b4, 2, none⟩ = some (.int .i64 x.f2) from (blk_cell BK4.out 2).trans rfl); have hk4_3 := (show w7.cell? ⟨b4, 3, none⟩ = some (.int .i64 x.f3) from (blk_cell BK4.out 3).trans rfl); have hk4_4 := (show w7.cell? ⟨b4, 4, none⟩ = some (.int .i64 x.f4.f0) from (blk_cell BK4.out 4).trans rfl); have hk4_5 := (show w7.cell? ⟨b4, 5, none⟩ = some (.int .i64 x.f4.f1) from (blk_cell BK4.out 5).trans rfl); have hk4_6 := (show w7.cell? ⟨b4, 6, none⟩ = some (.string x.f4.f2) from (blk_cell BK4.out 6).trans rfl); have hk4_7 := (show w7.cell? ⟨b4, 7, none⟩ = some (.slice A7 x.f5.length c7) from (blk_cell BK4.out 7).trans rfl); have hc1_0 := (show w7.cell? ⟨b1, 0, none⟩ = some (.slice (some ad) l.length c0) from (blk_cell BK1.out 0).trans rfl))
            | (go_at_call 31; (with_reducible refine (fails31 l (some ad) c0 x.f0 x.f1 x.f2 x.f3 x.f4.f0 x.f4.f1 x.f4.f2 A7 x.f5.length c7 x.f5 _ (Kd.C_below HR.out HB.out) (Kd.C_below HR7.out HB.out) H9.out).mono ?_); rintro e v0 ⟨rfl, hb⟩; have n0_ := Aside0.mk (below_step HB.out hb); clear HB hb; have HB := n0_; clear n0_; rw [HFB.out]))
          go_ret
          exact ⟨by rw [HA.out]; rfl, HB.out⟩
        ·
          have HFB := Aside0.mk hf
          have HT := Aside0.mk (show badX l x = false from bad_3 o hf)
          clear hf o
          go_wp2_with (first
            | ((with_reducible refine gate_dst (N := 4) rfl ?_); refine box_event ?hg (N := 4) ?hd (cs := #[.int .i64 0, .int .i64 0, .int .i64 0, .int .i64 0, .int .i64 0, .int .i64 0, .string ⟨#[]⟩, .slice none 0 0]) (t := 49) ?hr ?_; (case hd => rfl); (case hg => rfl); (case hr => first | (go_simp; done) | (go_simp; rfl)); intro b4 hg w4 hbox hb; have GE4 := Aside0.mk (show w.heap.size ≤ b4 by rw [hg]; exact below_size HB.out); have n9_ := Aside0.mk (below_step HB.out hb); clear HB; have HB := n9_; clear n9_; have BK4 := Aside0.mk hbox; clear hbox hg; have hz0 := (show w4.cell? ⟨b4, 0, none⟩ = some (.int .i64 0) from (blk_cell BK4.out 0).trans rfl); have hf0 := blk_frozen BK4.out 0; have hz1 := (show w4.cell? ⟨b4, 1, none⟩ = some (.int .i64 0) from (blk_cell BK4.out 1).trans rfl); have hf1 := blk_frozen BK4.out 1; have hz2 := (show w4.cell? ⟨b4, 2, none⟩ = some (.int .i64 0) from (blk_cell BK4.out 2).trans rfl); have hf2 := blk_frozen BK4.out 2; have hz3 := (show w4.cell? ⟨b4, 3, none⟩ = some (.int .i64 0) from (blk_cell BK4.out 3).trans rfl); have hf3 := blk_frozen BK4.out 3; have hz4 := (show w4.cell? ⟨b4, 4, none⟩ = some (.int .i64 0) from (blk_cell BK4.out 4).trans rfl); have hf4 := blk_frozen BK4.out 4; have hz5 := (show w4.cell? ⟨b4, 5, none⟩ = some (.int .i64 0) from (blk_cell BK4.out 5).trans rfl); have hf5 := blk_frozen BK4.out 5; have hz6 := (show w4.cell? ⟨b4, 6, none⟩ = some (.string ⟨#[]⟩) from (blk_cell BK4.out 6).trans rfl); have hf6 := blk_frozen BK4.out 6; have hz7 := (show w4.cell? ⟨b4, 7, none⟩ = some (.slice none 0 0) from (blk_cell BK4.out 7).trans rfl); have hf7 := blk_frozen BK4.out 7; have k_ := Aside0.mk (blk_below BK1.out hb); clear BK1; have BK1 := k_; clear k_; have NE4_0 := Aside0.mk (blk_ne BK1.out BK4.out (by decide)); clear hb)
            | ((with_reducible refine gate_store (t := 49) (p := 4) rfl ?_); refine store_event (t := 49) (p := 4) (v := ?vo_4) (w1 := ((((((((w4.setCell ⟨b4, 0, none⟩ (.int .i64 x.f0)).setCell ⟨b4, 1, none⟩ (.int .i64 x.f1)).setCell ⟨b4, 2, none⟩ (.int .i64 x.f2)).setCell ⟨b4, 3, none⟩ (.int .i64 x.f3)).setCell ⟨b4, 4, none⟩ (.int .i64 x.f4.f0)).setCell ⟨b4, 5, none⟩ (.int .i64 x.f4.f1)).setCell ⟨b4, 6, none⟩ (.string x.f4.f2)).setCell ⟨b4, 7, none⟩ (.slice A7 x.f5.length c7))) ?hg ?ho ?hn ?hr ?_; (case ho => rfl); (case hg => rfl); (case hn => rfl); (case hr => first | (go_simp; done) | (go_simp; rfl)); intro w7 hw; have n0_ : Aside0 (Below w.heap.size w w7) := ⟨by rw [hw]; exact (below_set (below_set (below_set (below_set (below_set (below_set (below_set (below_set HB.out GE4.out) GE4.out) GE4.out) GE4.out) GE4.out) GE4.out) GE4.out) GE4.out)⟩; have n1_ : Aside0 (w7.heap[b4]? = some (.cells #[.int .i64 x.f0, .int .i64 x.f1, .int .i64 x.f2, .int .i64 x.f3, .int .i64 x.f4.f0, .int .i64 x.f4.f1, .string x.f4.f2, .slice A7 x.f5.length c7] 49 (0, 0))) := ⟨by rw [hw]; exact (blk_list (blk_list (blk_list (blk_list (blk_list (blk_list (blk_list (blk_list BK4.out 0 _) 1 _) 2 _) 3 _) 4 _) 5 _) 6 _) 7 _)⟩; have kk0_ : Aside0 (w7.heap[b1]? = some (.cells #[.slice (some ad) l.length c0] 44 (0, 0))) := ⟨by rw [hw]; exact (blk_far (p := ⟨b4, 7, none⟩) (blk_far (p := ⟨b4, 6, none⟩) (blk_far (p := ⟨b4, 5, none⟩) (blk_far (p := ⟨b4, 4, none⟩) (blk_far (p := ⟨b4, 3, none⟩) (blk_far (p := ⟨b4, 2, none⟩) (blk_far (p := ⟨b4, 1, none⟩) (blk_far (p := ⟨b4, 0, none⟩) BK1.out NE4_0.out _) NE4_0.out _) NE4_0.out _) NE4_0.out _) NE4_0.out _) NE4_0.out _) NE4_0.out _) NE4_0.out _)⟩; clear HB BK4 BK1 hw hz0 hf0 hz1 hf1 hz2 hf2 hz3 hf3 hz4 hf4 hz5 hf5 hz6 hf6 hz7 hf7; have HB := n0_; have BK4 := n1_; clear n0_ n1_; have BK1 := kk0_; clear kk0_; have hk4_0 := (show w7.cell? ⟨b4, 0, none⟩ = some (.int .i64 x.f0) from (blk_cell BK4.out 0).trans rfl); have hk4_1 := (show w7.cell? ⟨b4, 1, none⟩ = some (.int .i64 x.f1) from (blk_cell BK4.out 1).trans rfl); have hk4_2 := (show w7.cell? ⟨b4, 2, none⟩ = some (.int .i64 x.f2) from (blk_cell BK4.out 2).trans rfl); have hk4_3 := (show w7.cell? ⟨b4, 3, none⟩ = some (.int .i64 x.f3) from (blk_cell BK4.out 3).trans rfl); have hk4_4 := (show w7.cell? ⟨b4, 4, none⟩ = some (.int .i64 x.f4.f0) from (blk_cell BK4.out 4).trans rfl); have hk4_5 := (show w7.cell? ⟨b4, 5, none⟩ = some (.int .i64 x.f4.f1) from (blk_cell BK4.out 5).trans rfl); have hk4_6 := (show w7.cell? ⟨b4, 6, none⟩ = some (.string x.f4.f2) from (blk_cell BK4.out 6).trans rfl); have hk4_7 := (show w7.cell? ⟨b4, 7, none⟩ = some (.slice A7 x.f5.length c7) from (blk_cell BK4.out 7).trans rfl); have hc1_0 := (show w7.cell? ⟨b1, 0, none⟩ = some (.slice (some ad) l.length c0) from (blk_cell BK1.out 0).trans rfl))
            | (go_at_call 31; (with_reducible refine (fails31 l (some ad) c0 x.f0 x.f1 x.f2 x.f3 x.f4.f0 x.f4.f1 x.f4.f2 A7 x.f5.length c7 x.f5 _ (Kd.C_below HR.out HB.out) (Kd.C_below HR7.out HB.out) H9.out).mono ?_); rintro e v0 ⟨rfl, hb⟩; have n0_ := Aside0.mk (below_step HB.out hb); have n1_ := Aside0.mk (blk_below BK1.out hb); clear HB BK1 hb; have HB := n0_; have BK1 := n1_; clear n0_ n1_; rw [HFB.out]))
          go_roundw
          case rel => exact ⟨n, i + 1, (by first | exact congrArg (Value.int .i64) HW.out | go_num), ⟨by have := HI.out; omega⟩, ⟨fun j hj => by
               by_cases ej : j = i
               · subst ej; rw [HXX.out]; exact HT.out
               · exact HSM.out j (by omega)⟩, BK1, HB⟩
          case measure => rw [HW.out]; have := HL.out; show l.length - ((i + 1 : Nat) : Int).toNat < l.length - ((i : Nat) : Int).toNat; omega
end Go.Proofs.Ytphlfmgllbpbhaa.QFnExactSafePlan
