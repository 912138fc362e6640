/- Proved: what impl.failsByForm and spec.l04Fails answer: both failB. Conditions: the node may be told. -/
import Derived.Test.YtphlfmgllbpbhaaTold
namespace Go.Proofs.Ytphlfmgllbpbhaa.QFnExactSafePlan
open Go.RowKit Go.Proofs.YtphlfmgllbpbhaaW.PrintWords Go.Proofs.YtphlfmgllbpbhaaW.PrintLast Go.Proofs.YtphlfmgllbpbhaaW.PrintMore
set_option linter.unusedVariables false
set_option linter.unusedSimpArgs false
theorem addr_zero (a : Addr) : a.add 0 = a := by unfold Addr.add; split <;> simp_all
/-- Can a node fail by its form? kk: the kind of its first kid. -/
def failB (op a kk : Int) : Bool :=
  if op = 3 then decide (a ≤ 6) else if op = 4 then (a == 17) else if op = 9 then (kk != a) && ((kk != 0) && (a != 3)) else if op = 10 then (a == 1) || ((a == 5) || (a == 10)) else false
set_option maxHeartbeats 4000000 in
set_option maxRecDepth 100000 in
theorem fails31 (l : List S49) (An : Option Addr) (cn : Nat) (op kd a b vk vn : Int) (vs : ByteArray) (A7 : Option Addr) (n7 c7 : Nat) (ks : List Int) (w : World) (hrn : Kd.C k49 w An l.length l) (hr7 : Kd.C (Kd.int .i64) w A7 n7 ks) (h9 : op = 9 → 0 < n7 ∧ 0 ≤ rd ks 0 ∧ rd ks 0 < (l.length : Int)) :
    Calls Try.prog 31 #[.slice An l.length cn, .agg #[.int .i64 op, .int .i64 kd, .int .i64 a, .int .i64 b, .int .i64 vk, .int .i64 vn, .string vs, .slice A7 n7 c7]] w fun e w' => e = .returned (.bool (failB op a (rd_T49 l (rd ks 0)).f1)) ∧ Below w.heap.size w w' := by
  have hu := Try.underlying49
  have HB := Aside0.mk (Below.refl w.heap.size w)
  have HRN := Aside0.mk hrn
  have HR7 := Aside0.mk hr7
  clear hrn hr7
  by_cases o3 : op = 3
  · subst o3
    rw [show failB 3 a _ = decide (a ≤ 6) by simp [failB]]
    go_enter Try.func31, Try.ntmps31
    go_wp2
    go_ret
    exact ⟨rfl, below_alloc HB.out _⟩
  have p3 : (op == 3) = false := by simp [o3]
  by_cases o4 : op = 4
  · subst o4
    rw [show failB 4 a _ = (a == 17) by simp [failB]]
    go_enter Try.func31, Try.ntmps31
    go_wp2
    go_ret
    exact ⟨rfl, below_alloc HB.out _⟩
  have p4 : (op == 4) = false := by simp [o4]
  by_cases o9 : op = 9
  · subst o9
    obtain ⟨z0, z1, z2⟩ := h9 rfl
    obtain ⟨ad, e9, hx9⟩ := Kd.at_int HR7.out (0 : Int) (by decide) (by omega)
    subst e9
    obtain ⟨k0, hk0⟩ : ∃ k0, rd ks 0 = k0 := ⟨_, rfl⟩
    rw [hk0] at hx9 z1 z2
    obtain ⟨nd, B7, d7, en, hy0, hy1, hy2, hy3, hy4, hy5, hy6, hy7, hl7, hg7⟩ := at_T49 HRN.out k0 z1 z2
    subst en
    obtain ⟨kk, hkk⟩ : ∃ kk, (rd_T49 l (rd ks 0)).f1 = kk := ⟨_, rfl⟩
    rw [hk0] at hkk
    rw [hkk] at hy1
    rw [hk0, hkk]
    simp only [Int.toNat_zero] at hx9
    rw [addr_zero] at hx9
    have i0 : (0 : Int) < (n7 : Int) := by omega
    replace z1 := eq_true z1
    replace z2 := eq_true z2
    clear hk0 hkk hy0 hy2 hy3 hy4 hy5 hy6 hy7 hl7 hg7
    by_cases c1 : a = kk
    · subst c1
      rw [show failB 9 a a = false by simp [failB]]
      go_enter Try.func31, Try.ntmps31
      go_wp2_with (first | ((with_reducible refine gate_dst (N := 3) rfl ?_); refine box_event ?hg (N := 3) ?hd (cs := #[.int .i64 9, .int .i64 kd, .int .i64 a, .int .i64 b, .int .i64 vk, .int .i64 vn, .string vs, .slice (some ad) n7 c7]) (t := 49) ?hr ?_; (case hd => rfl); (case hg => rfl); (case hr => first | (go_simp; done) | (go_simp; rfl)); intro b1 hg w1 hbox hb; have n9_ := Aside0.mk (below_step HB.out hb); clear HB; have HB := n9_; clear n9_; have BK := Aside0.mk hbox; clear hbox hg hb; have hc0 := (show w1.cell? ⟨b1, 0, none⟩ = some (.int .i64 9) from (blk_cell BK.out 0).trans rfl); have hc2 := (show w1.cell? ⟨b1, 2, none⟩ = some (.int .i64 a) from (blk_cell BK.out 2).trans rfl); have hc7 := (show w1.cell? ⟨b1, 7, none⟩ = some (.slice (some ad) n7 c7) from (blk_cell BK.out 7).trans rfl); have hx9' := (HB.out.cell (World.block_lt_of_cell? w _ hx9)).trans hx9; have hy1' := (HB.out.cell (World.block_lt_of_cell? w _ hy1)).trans hy1))
      all_goals go_ret
      all_goals exact ⟨rfl, by repeat (first | (with_reducible first | exact HB.out | apply below_alloc | apply pw_below_drewN | apply below_drew1) | exact HB.out)⟩
    have n1 : (a != kk) = true := by simp [c1]
    have n2 : (kk != a) = true := by simp [Ne.symm c1]
    by_cases c2 : kk = 0
    · subst c2
      rw [show failB 9 a 0 = false by simp [failB]]
      clear c1
      go_enter Try.func31, Try.ntmps31
      go_wp2_with (first | ((with_reducible refine gate_dst (N := 3) rfl ?_); refine box_event ?hg (N := 3) ?hd (cs := #[.int .i64 9, .int .i64 kd, .int .i64 a, .int .i64 b, .int .i64 vk, .int .i64 vn, .string vs, .slice (some ad) n7 c7]) (t := 49) ?hr ?_; (case hd => rfl); (case hg => rfl); (case hr => first | (go_simp; done) | (go_simp; rfl)); intro b1 hg w1 hbox hb; have n9_ := Aside0.mk (below_step HB.out hb); clear HB; have HB := n9_; clear n9_; have BK := Aside0.mk hbox; clear hbox hg hb; have hc0 := (show w1.cell? ⟨b1, 0, none⟩ = some (.int .i64 9) from (blk_cell BK.out 0).trans rfl); have hc2 := (show w1.cell? ⟨b1, 2, none⟩ = some (.int .i64 a) from (blk_cell BK.out 2).trans rfl); have hc7 := (show w1.cell? ⟨b1, 7, none⟩ = some (.slice (some ad) n7 c7) from (blk_cell BK.out 7).trans rfl); have hx9' := (HB.out.cell (World.block_lt_of_cell? w _ hx9)).trans hx9; have hy1' := (HB.out.cell (World.block_lt_of_cell? w _ hy1)).trans hy1))
      all_goals go_ret
      all_goals exact ⟨rfl, by repeat (first | (with_reducible first | exact HB.out | apply below_alloc | apply pw_below_drewN | apply below_drew1) | exact HB.out)⟩
    have n3 : (kk != 0) = true := by simp [c2]
    rw [show failB 9 a kk = (a != 3) by simp [failB, n2, n3]]
    clear c1 c2
    go_enter Try.func31, Try.ntmps31
    go_wp2_with (first | ((with_reducible refine gate_dst (N := 3) rfl ?_); refine box_event ?hg (N := 3) ?hd (cs := #[.int .i64 9, .int .i64 kd, .int .i64 a, .int .i64 b, .int .i64 vk, .int .i64 vn, .string vs, .slice (some ad) n7 c7]) (t := 49) ?hr ?_; (case hd => rfl); (case hg => rfl); (case hr => first | (go_simp; done) | (go_simp; rfl)); intro b1 hg w1 hbox hb; have n9_ := Aside0.mk (below_step HB.out hb); clear HB; have HB := n9_; clear n9_; have BK := Aside0.mk hbox; clear hbox hg hb; have hc0 := (show w1.cell? ⟨b1, 0, none⟩ = some (.int .i64 9) from (blk_cell BK.out 0).trans rfl); have hc2 := (show w1.cell? ⟨b1, 2, none⟩ = some (.int .i64 a) from (blk_cell BK.out 2).trans rfl); have hc7 := (show w1.cell? ⟨b1, 7, none⟩ = some (.slice (some ad) n7 c7) from (blk_cell BK.out 7).trans rfl); have hx9' := (HB.out.cell (World.block_lt_of_cell? w _ hx9)).trans hx9; have hy1' := (HB.out.cell (World.block_lt_of_cell? w _ hy1)).trans hy1))
    all_goals go_ret
    all_goals exact ⟨rfl, by repeat (first | (with_reducible first | exact HB.out | apply below_alloc | apply pw_below_drewN | apply below_drew1) | exact HB.out)⟩
  have p9 : (op == 9) = false := by simp [o9]
  by_cases o10 : op = 10
  · subst o10
    by_cases c1 : a = 1
    · subst c1
      rw [show failB 10 1 _ = true by simp [failB]]
      go_enter Try.func31, Try.ntmps31
      go_wp2
      go_ret
      exact ⟨rfl, below_alloc HB.out _⟩
    have n1 : (a == 1) = false := by simp [c1]
    by_cases c2 : a = 5
    · subst c2
      rw [show failB 10 5 _ = true by simp [failB]]
      clear c1
      go_enter Try.func31, Try.ntmps31
      go_wp2
      go_ret
      exact ⟨rfl, below_alloc HB.out _⟩
    have n2 : (a == 5) = false := by simp [c2]
    rw [show failB 10 a _ = (a == 10) by simp [failB, n1, n2]]
    clear c1 c2
    go_enter Try.func31, Try.ntmps31
    go_wp2
    go_ret
    exact ⟨rfl, below_alloc HB.out _⟩
  have p10 : (op == 10) = false := by simp [o10]
  rw [show failB op a _ = false by simp [failB, o3, o4, o9, o10]]
  clear o3 o4 o9 o10 h9
  go_enter Try.func31, Try.ntmps31
  go_wp2
  go_ret
  exact ⟨rfl, below_alloc HB.out _⟩
set_option maxHeartbeats 4000000 in
set_option maxRecDepth 100000 in
theorem fails13 (op kd a b vk vn : Int) (vs : ByteArray) (A7 : Option Addr) (n7 c7 : Nat) (An : Option Addr) (nk cn : Nat) (ks : List Int) (w : World) (hrn : Kd.C (Kd.int .i64) w An nk ks) (h3 : op = 3 → 1 ≤ a) (h9 : op = 9 → nk = 1) :
    Calls Try.prog 13 #[.agg #[.int .i64 op, .int .i64 kd, .int .i64 a, .int .i64 b, .int .i64 vk, .int .i64 vn, .string vs, .slice A7 n7 c7], .slice An nk cn] w fun e w' => e = .returned (.bool (failB op a (rd ks 0))) ∧ Below w.heap.size w w' := by
  have hu := Try.underlying49
  have HB := Aside0.mk (Below.refl w.heap.size w)
  have HRN := Aside0.mk hrn
  clear hrn
  by_cases o3 : op = 3
  · subst o3
    have d1 : decide (1 ≤ a) = true := decide_eq_true (h3 rfl)
    rw [show failB 3 a _ = decide (a ≤ 6) by simp [failB]]
    go_enter Try.func13, Try.ntmps13
    go_wp2
    go_ret
    exact ⟨rfl, below_alloc HB.out _⟩
  have p3 : (op == 3) = false := by simp [o3]
  by_cases o4 : op = 4
  · subst o4
    rw [show failB 4 a _ = (a == 17) by simp [failB]]
    go_enter Try.func13, Try.ntmps13
    go_wp2
    go_ret
    exact ⟨rfl, below_alloc HB.out _⟩
  have p4 : (op == 4) = false := by simp [o4]
  by_cases o9 : op = 9
  · subst o9
    have hk1 := h9 rfl
    obtain ⟨ad, e9, hx9⟩ := Kd.at_int HRN.out (0 : Int) (by decide) (by omega)
    subst e9
    obtain ⟨kk, hkk⟩ : ∃ kk, rd ks 0 = kk := ⟨_, rfl⟩
    rw [hkk] at hx9 ⊢
    simp only [Int.toNat_zero] at hx9
    rw [addr_zero] at hx9
    subst hk1
    clear hkk
    by_cases c1 : a = kk
    · subst c1
      rw [show failB 9 a a = false by simp [failB]]
      go_enter Try.func13, Try.ntmps13
      go_wp2_with (first | ((with_reducible refine gate_dst (N := 2) rfl ?_); refine box_event ?hg (N := 2) ?hd (cs := #[.int .i64 9, .int .i64 kd, .int .i64 a, .int .i64 b, .int .i64 vk, .int .i64 vn, .string vs, .slice A7 n7 c7]) (t := 49) ?hr ?_; (case hd => rfl); (case hg => rfl); (case hr => first | (go_simp; done) | (go_simp; rfl)); intro b1 hg w1 hbox hb; have n9_ := Aside0.mk (below_step HB.out hb); clear HB; have HB := n9_; clear n9_; have BK := Aside0.mk hbox; clear hbox hg hb; have hc0 := (show w1.cell? ⟨b1, 0, none⟩ = some (.int .i64 9) from (blk_cell BK.out 0).trans rfl); have hc2 := (show w1.cell? ⟨b1, 2, none⟩ = some (.int .i64 a) from (blk_cell BK.out 2).trans rfl); have hc7 := (show w1.cell? ⟨b1, 7, none⟩ = some (.slice A7 n7 c7) from (blk_cell BK.out 7).trans rfl); have hx9' := (HB.out.cell (World.block_lt_of_cell? w _ hx9)).trans hx9))
      go_quiet (fail)
      all_goals go_wp2
      all_goals go_ret
      all_goals exact ⟨rfl, by repeat (first | (with_reducible first | exact HB.out | apply below_alloc | apply pw_below_drewN | apply below_drew1) | exact HB.out)⟩
    have n1 : (a != kk) = true := by simp [c1]
    have n2 : (kk != a) = true := by simp [Ne.symm c1]
    by_cases c2 : kk = 0
    · subst c2
      rw [show failB 9 a 0 = false by simp [failB]]
      clear c1
      go_enter Try.func13, Try.ntmps13
      go_wp2_with (first | ((with_reducible refine gate_dst (N := 2) rfl ?_); refine box_event ?hg (N := 2) ?hd (cs := #[.int .i64 9, .int .i64 kd, .int .i64 a, .int .i64 b, .int .i64 vk, .int .i64 vn, .string vs, .slice A7 n7 c7]) (t := 49) ?hr ?_; (case hd => rfl); (case hg => rfl); (case hr => first | (go_simp; done) | (go_simp; rfl)); intro b1 hg w1 hbox hb; have n9_ := Aside0.mk (below_step HB.out hb); clear HB; have HB := n9_; clear n9_; have BK := Aside0.mk hbox; clear hbox hg hb; have hc0 := (show w1.cell? ⟨b1, 0, none⟩ = some (.int .i64 9) from (blk_cell BK.out 0).trans rfl); have hc2 := (show w1.cell? ⟨b1, 2, none⟩ = some (.int .i64 a) from (blk_cell BK.out 2).trans rfl); have hc7 := (show w1.cell? ⟨b1, 7, none⟩ = some (.slice A7 n7 c7) from (blk_cell BK.out 7).trans rfl); have hx9' := (HB.out.cell (World.block_lt_of_cell? w _ hx9)).trans hx9))
      go_quiet (fail)
      all_goals go_wp2
      all_goals go_ret
      all_goals exact ⟨rfl, by repeat (first | (with_reducible first | exact HB.out | apply below_alloc | apply pw_below_drewN | apply below_drew1) | exact HB.out)⟩
    have n3 : (kk != 0) = true := by simp [c2]
    rw [show failB 9 a kk = (a != 3) by simp [failB, n2, n3]]
    clear c1 c2
    go_enter Try.func13, Try.ntmps13
    go_wp2_with (first | ((with_reducible refine gate_dst (N := 2) rfl ?_); refine box_event ?hg (N := 2) ?hd (cs := #[.int .i64 9, .int .i64 kd, .int .i64 a, .int .i64 b, .int .i64 vk, .int .i64 vn, .string vs, .slice A7 n7 c7]) (t := 49) ?hr ?_; (case hd => rfl); (case hg => rfl); (case hr => first | (go_simp; done) | (go_simp; rfl)); intro b1 hg w1 hbox hb; have n9_ := Aside0.mk (below_step HB.out hb); clear HB; have HB := n9_; clear n9_; have BK := Aside0.mk hbox; clear hbox hg hb; have hc0 := (show w1.cell? ⟨b1, 0, none⟩ = some (.int .i64 9) from (blk_cell BK.out 0).trans rfl); have hc2 := (show w1.cell? ⟨b1, 2, none⟩ = some (.int .i64 a) from (blk_cell BK.out 2).trans rfl); have hc7 := (show w1.cell? ⟨b1, 7, none⟩ = some (.slice A7 n7 c7) from (blk_cell BK.out 7).trans rfl); have hx9' := (HB.out.cell (World.block_lt_of_cell? w _ hx9)).trans hx9))
    go_quiet (fail)
    all_goals go_wp2
    all_goals go_ret
    all_goals exact ⟨rfl, by repeat (first | (with_reducible first | exact HB.out | apply below_alloc | apply pw_below_drewN | apply below_drew1) | exact HB.out)⟩
  have p9 : (op == 9) = false := by simp [o9]
  by_cases o10 : op = 10
  · subst o10
    by_cases c1 : a = 1
    · subst c1
      rw [show failB 10 1 _ = true by simp [failB]]
      go_enter Try.func13, Try.ntmps13
      go_wp2
      go_ret
      exact ⟨rfl, below_alloc HB.out _⟩
    have n1 : (a == 1) = false := by simp [c1]
    by_cases c2 : a = 5
    · subst c2
      rw [show failB 10 5 _ = true by simp [failB]]
      clear c1
      go_enter Try.func13, Try.ntmps13
      go_wp2
      go_ret
      exact ⟨rfl, below_alloc HB.out _⟩
    have n2 : (a == 5) = false := by simp [c2]
    rw [show failB 10 a _ = (a == 10) by simp [failB, n1, n2]]
    clear c1 c2
    go_enter Try.func13, Try.ntmps13
    go_wp2
    go_ret
    exact ⟨rfl, below_alloc HB.out _⟩
  have p10 : (op == 10) = false := by simp [o10]
  rw [show failB op a _ = false by simp [failB, o3, o4, o9, o10]]
  clear o3 o4 o9 o10 h9 h3
  go_enter Try.func13, Try.ntmps13
  go_wp2
  go_ret
  exact ⟨rfl, below_alloc HB.out _⟩
end Go.Proofs.Ytphlfmgllbpbhaa.QFnExactSafePlan
