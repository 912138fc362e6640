/- Proved: the law FnExactSafePlan's walk: it answers true. Conditions: no text of the plan is longer than 2^48. -/
import Derived.Test.YtphlfmgllbpbhaaIpl
import Derived.Test.YtphlfmgllbpbhaaEq
namespace Go.Proofs.Ytphlfmgllbpbhaa.QFnExactSafePlan
open Go.RowKit Go.Proofs.YtphlfmgllbpbhaaW.PrintWords Go.Proofs.YtphlfmgllbpbhaaW.PrintLast Go.Proofs.YtphlfmgllbpbhaaW.PrintMore
set_option linter.unusedVariables false
set_option linter.unusedSimpArgs false
theorem getD_out {α : Type} {l : List α} {j : Nat} (h : ¬ j < l.length) (z : α) : l.getD j z = z := by simp [List.getD, List.getElem?_eq_none (Nat.le_of_not_lt h)]
theorem smE_z : smE z44 := ⟨by decide, fun q => by rw [show z44.f0.getD q z49 = z49 from getD_out (by exact Nat.not_lt_zero q) z49]; decide⟩
/-- What the law's own plan's sizes say of the copy. -/
theorem smN_cv {x : S60} (h : sm60 x) : smN (cv60 x) := by
  intro j
  show smE ((x.f6.map cv87).getD j z44)
  by_cases hj : j < x.f6.length
  · rw [cv87_at x.f6 j hj]
    have h2 := (h.1.2 j).1
    refine ⟨by show ((x.f6.getD j z87).f0.map cv104).length ≤ 1048576; rw [List.length_map]; exact h2.1, fun q => ?_⟩
    show (((x.f6.getD j z87).f0.map cv104).getD q z49).f5.length ≤ 1048576
    by_cases hq : q < (x.f6.getD j z87).f0.length
    · rw [cv104_at _ q hq]
      exact (h2.2 q).2.1
    · rw [getD_out (by rw [List.length_map]; exact hq)]
      decide
  · rw [getD_out (by rw [List.length_map]; exact hj)]
    exact smE_z
theorem smN_all {x : S24} (h : sm24 x) (j : Nat) : smN ((x.f0.map cv60).getD j z39) := by
  by_cases hj : j < x.f0.length
  · rw [cv60_at x.f0 j hj]
    exact smN_cv (h.1.2 j)
  · rw [getD_out (by rw [List.length_map]; exact hj)]
    intro q
    rw [show z39.f6.getD q z44 = z44 from getD_out (by exact Nat.not_lt_zero q) z44]
    exact smE_z
theorem to6y (x : S24) (y : S29) (hy : cv24 x = y) (A0 : Option Addr) (c0 : Nat) (w : World) (g0 : Kd.C k60 w A0 x.f0.length x.f0) (l0 : x.f0.length ≤ c0) (hs : sm24 x) :
    Calls Try.prog 6 #[.agg #[.slice A0 x.f0.length c0]] w fun e w' => ∃ (B0 : Option Addr) (d0 : Nat), e = .returned (.agg #[.slice B0 y.f0.length d0]) ∧ (y.f0.length ≤ d0 ∧ Kd.C k39 w' B0 y.f0.length y.f0) ∧ Below w.heap.size w w' :=
  (to6 x A0 c0 w g0 l0 hs).mono fun e w' ⟨B, d, he, hr, hb⟩ => by
    subst hy
    have h := Kd.R_reads' hr
    have hl : (cv24 x).f0.length = x.f0.length := List.length_map _
    exact ⟨B, d, by rw [hl]; exact he, ⟨by rw [hl]; exact h.2.1, h.2.2⟩, hb⟩
theorem smN_y {x : S24} {y : S29} (hy : cv24 x = y) (h : sm24 x) (j : Nat) : smN (y.f0.getD j z39) := by subst hy; exact smN_all h j
set_option maxHeartbeats 8000000 in
set_option maxRecDepth 100000 in
theorem law3 (x : S24) (A0 : Option Addr) (c0 : Nat) (w : World) (g0 : Kd.C k60 w A0 x.f0.length x.f0) (l0 : x.f0.length ≤ c0) (hb : bd24 x) :
    Calls Try.prog 3 #[.agg #[.slice A0 x.f0.length c0]] w fun e w' => e = .returned (.bool true) ∧ Below w.heap.size w w' := by
  have hu := Try.underlying24
  have hv := Try.underlying29
  have G0 := Aside0.mk g0
  have L0 := Aside0.mk l0
  have HBD := Aside0.mk hb
  clear g0 l0 hb
  have HB := Aside0.mk (Below.refl w.heap.size w)
  have tok4 : True := trivial
  go_enter Try.func3, Try.ntmps3
  go_wp2_with (first | ((with_reducible refine gate_dst (N := 1) rfl ?_); refine box_event ?hg (N := 1) ?hd (cs := #[.slice A0 x.f0.length c0]) (t := 24) ?hr ?_; (case hd => rfl); (case hg => rfl); (case hr => first | (go_simp; done) | (go_simp; rfl)); intro b1 hg w1 hbox hb; have n0_ := Aside0.mk (below_step HB.out hb); clear HB; have HB := n0_; clear n0_; have BK1 := Aside0.mk hbox; clear hbox hg hb; have hk1 := (show w1.cell? ⟨b1, 0, none⟩ = some (.slice A0 x.f0.length c0) from (blk_cell BK1.out 0).trans rfl)) | (go_at_call 4; have t_ := tok4; clear t_; (with_reducible refine (sz4 x A0 c0 1048576 _ (Kd.C_below G0.out HB.out) L0.out HBD.out (by decide) (by decide)).mono ?_); rintro en v4 ⟨r0, rfl, b0a, b0b, hs, hb⟩; have HS0 := Aside0.mk hs; have n0_ := Aside0.mk (below_step HB.out hb); have n1_ := Aside0.mk (blk_below BK1.out hb); clear HB BK1 hb hs tok4; have HB := n0_; have BK1 := n1_; clear n0_ n1_; have hk1 := (show v4.cell? ⟨b1, 0, none⟩ = some (.slice A0 x.f0.length c0) from (blk_cell BK1.out 0).trans rfl)))
  · go_ret
    exact ⟨rfl, HB.out⟩
  · have HSM := Aside0.mk (HS0.out (by omega))
    obtain ⟨y, hy⟩ : ∃ y, cv24 x = y := ⟨_, rfl⟩
    have HY := Aside0.mk hy
    obtain ⟨bb, hbb⟩ : ∃ bb, y.f0.all nodeOK = bb := ⟨_, rfl⟩
    have HBB := Aside0.mk hbb
    have hn : (bb != bb) = false := by simp
    clear hy hbb
    have tok6a : True := trivial
    have tok5 : True := trivial
    have tok6b : True := trivial
    have tok7 : True := trivial
    go_wp2_with (first | (go_at_call 6; have t_ := tok6a; clear t_; (with_reducible refine (to6y x y HY.out A0 c0 _ (Kd.C_below G0.out HB.out) L0.out HSM.out).mono ?_); rintro en v6 ⟨B0, d0, rfl, hr, hb⟩; have RD0 := Aside0.mk hr; clear hr; have n0_ := Aside0.mk (below_step HB.out hb); have n1_ := Aside0.mk (blk_below BK1.out hb); clear HB BK1 hb tok6a; have HB := n0_; have BK1 := n1_; clear n0_ n1_; have hk1 := (show v6.cell? ⟨b1, 0, none⟩ = some (.slice A0 x.f0.length c0) from (blk_cell BK1.out 0).trans rfl)) | (go_at_call 5; have t_ := tok5; clear t_; (with_reducible refine (spec5 y.f0 B0 d0 _ RD0.out.2 (smN_y HY.out HSM.out)).mono ?_); rintro en v5 ⟨rfl, hb⟩; clear RD0; rw [HBB.out]; have n0_ := Aside0.mk (below_step HB.out hb); have n1_ := Aside0.mk (blk_below BK1.out hb); clear HB BK1 hb tok5; have HB := n0_; have BK1 := n1_; clear n0_ n1_; have hk1 := (show v5.cell? ⟨b1, 0, none⟩ = some (.slice A0 x.f0.length c0) from (blk_cell BK1.out 0).trans rfl)) | (go_at_call 6; have t_ := tok6b; clear t_; (with_reducible refine (to6y x y HY.out A0 c0 _ (Kd.C_below G0.out HB.out) L0.out HSM.out).mono ?_); rintro en v8 ⟨B1, d1, rfl, hr, hb⟩; have RD1 := Aside0.mk hr; clear hr; have n0_ := Aside0.mk (below_step HB.out hb); have n1_ := Aside0.mk (blk_below BK1.out hb); clear HB BK1 hb tok6b; have HB := n0_; have BK1 := n1_; clear n0_ n1_; have hk1 := (show v8.cell? ⟨b1, 0, none⟩ = some (.slice A0 x.f0.length c0) from (blk_cell BK1.out 0).trans rfl)) | ((with_reducible refine gate_dst (N := 5) rfl ?_); refine box_event ?hg (N := 5) ?hd (cs := #[.slice none 0 0]) (t := 29) ?hr ?_; (case hd => rfl); (case hg => rfl); (case hr => first | (go_simp; done) | (go_simp; rfl)); intro b5 hg w5 hbox hb; have HD := Aside0.mk hb; have GD := Aside0.mk (show v8.heap.size ≤ b5 by rw [hg]; exact Nat.le_refl _); have GE5 := Aside0.mk (show w.heap.size ≤ b5 by rw [hg]; exact below_size HB.out); have n9_ := Aside0.mk (below_step HB.out hb); clear HB; have HB := n9_; clear n9_; have BK5 := Aside0.mk hbox; clear hbox hg; have hz0 := (show w5.cell? ⟨b5, 0, none⟩ = some (.slice none 0 0) from (blk_cell BK5.out 0).trans rfl); have hf0 := blk_frozen BK5.out 0; have k_ := Aside0.mk (blk_below BK1.out hb); clear BK1; have BK1 := k_; clear k_; have NE5_0 := Aside0.mk (blk_ne BK1.out BK5.out (by decide)); clear hb) | ((with_reducible refine gate_store (t := 29) (p := 5) rfl ?_); refine store_event (t := 29) (p := 5) (v := ?vo_5) (w1 := (w5.setCell ⟨b5, 0, none⟩ (.slice B1 y.f0.length d1))) ?hg ?ho ?hn ?hr ?_; (case ho => rfl); (case hg => rfl); (case hn => rfl); (case hr => first | (go_simp; done) | (go_simp; rfl)); intro w7 hw; have m_ : Aside0 (Below v8.heap.size v8 w7) := ⟨by rw [hw]; exact below_set HD.out GD.out⟩; have r_ := Aside0.mk ((⟨RD1.out.1, Kd.C_below RD1.out.2 m_.out⟩ : _ ∧ _)); clear RD1 HD GD m_; have RD1 := r_; clear r_; have n0_ : Aside0 (Below w.heap.size w w7) := ⟨by rw [hw]; exact (below_set HB.out GE5.out)⟩; have n1_ : Aside0 (w7.heap[b5]? = some (.cells #[.slice B1 y.f0.length d1] 29 (0, 0))) := ⟨by rw [hw]; exact (blk_list BK5.out 0 _)⟩; have kk0_ : Aside0 (w7.heap[b1]? = some (.cells #[.slice A0 x.f0.length c0] 24 (0, 0))) := ⟨by rw [hw]; exact (blk_far (p := ⟨b5, 0, none⟩) BK1.out NE5_0.out _)⟩; clear HB BK5 BK1 hw hz0 hf0; have HB := n0_; have BK5 := n1_; clear n0_ n1_; have BK1 := kk0_; clear kk0_; have hk5_0 := (show w7.cell? ⟨b5, 0, none⟩ = some (.slice B1 y.f0.length d1) from (blk_cell BK5.out 0).trans rfl)) | (go_at_call 7; have t_ := tok7; clear t_; (with_reducible refine (impl7 y.f0 B1 d1 _ RD1.out.2 (smN_y HY.out HSM.out)).mono ?_); rintro en v7 ⟨rfl, hb⟩; rw [HBB.out]; have n0_ := Aside0.mk (below_step HB.out hb); have n1_ := Aside0.mk (blk_below BK1.out hb); have n2_ := Aside0.mk (blk_below BK5.out hb); have n3_ := Aside0.mk ((⟨RD1.out.1, Kd.C_below RD1.out.2 hb⟩ : _ ∧ _)); clear HB BK1 BK5 RD1 hb tok7; have HB := n0_; have BK1 := n1_; have BK5 := n2_; have RD1 := n3_; clear n0_ n1_ n2_ n3_; have hk1 := (show v7.cell? ⟨b1, 0, none⟩ = some (.slice A0 x.f0.length c0) from (blk_cell BK1.out 0).trans rfl); have hk5 := (show v7.cell? ⟨b5, 0, none⟩ = some (.slice B1 y.f0.length d1) from (blk_cell BK5.out 0).trans rfl)))
    have tok6c : True := trivial
    have tok8 : True := trivial
    go_region_held3 (fun w' => w'.cell? ⟨b5, 0, none⟩ = some (.slice B1 y.f0.length d1) ∧ w'.cell? ⟨b1, 0, none⟩ = some (.slice A0 x.f0.length c0)) (first | ((repeat' apply And.intro) <;> (first | assumption | (apply pw_cell_below HK.out; assumption))) | go_keep) (first | (go_at_call 6; have t_ := tok6c; clear t_; (with_reducible refine (to6y x y HY.out A0 c0 _ (Kd.C_drew (Kd.C_below G0.out HB.out)) L0.out HSM.out).mono ?_); rintro en v9 ⟨B2, d2, rfl, hr, hb⟩; have HK := Aside0.mk (below_step (below_drew1 (Below.refl v7.heap.size v7)) hb); have RD2 := Aside0.mk hr; clear hr; have n0_ := Aside0.mk (below_step HB.out HK.out); have n1_ := Aside0.mk ((⟨RD1.out.1, Kd.C_below RD1.out.2 HK.out⟩ : _ ∧ _)); clear HB RD1 hb tok6c; have HB := n0_; have RD1 := n1_; clear n0_ n1_) | (go_at_call 8; have t_ := tok8; clear t_; (with_reducible refine (eq8 y B1 d1 B2 d2 _ RD1.out.2 RD1.out.1 RD2.out.2 RD2.out.1).mono ?_); rintro en v10 ⟨rfl, hb⟩; have n0_ := Aside0.mk (below_step HB.out hb); have n1_ := Aside0.mk (below_step HK.out hb); clear HB HK hb tok8; have HB := n0_; have HK := n1_; clear n0_ n1_))
    all_goals go_wp2
    all_goals go_ret
    all_goals exact ⟨rfl, HB.out⟩
end Go.Proofs.Ytphlfmgllbpbhaa.QFnExactSafePlan
