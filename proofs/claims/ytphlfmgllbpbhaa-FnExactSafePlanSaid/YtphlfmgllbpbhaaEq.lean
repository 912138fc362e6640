/- Proved: what laws' functions eqX answer at equal contents: true. Conditions: the arguments are read. -/
import Derived.Test.YtphlfmgllbpbhaaTo
namespace Go.Proofs.Ytphlfmgllbpbhaa.QFnExactSafePlan
open Go.RowKit Go.Proofs.YtphlfmgllbpbhaaW.PrintWords Go.Proofs.YtphlfmgllbpbhaaW.PrintLast Go.Proofs.YtphlfmgllbpbhaaW.PrintMore
set_option linter.unusedVariables false
set_option linter.unusedSimpArgs false
set_option maxHeartbeats 4000000 in
set_option maxRecDepth 100000 in
theorem eq43 (l : List Int) (A0 : Option Addr) (c0 : Nat) (B0 : Option Addr) (d0 : Nat) (w : World) (hr : Kd.C (Kd.int .i64) w A0 l.length l) (hc : l.length ≤ c0) (hr2 : Kd.C (Kd.int .i64) w B0 l.length l) (hc2 : l.length ≤ d0) :
    Calls Try.prog 43 #[.slice A0 l.length c0, .slice B0 l.length d0] w fun e w' => e = .returned (.bool true) ∧ Below w.heap.size w w' := by
  have HM := Aside0.mk (show l.length ≤ 9223372036854775807 from hr.2.1)
  have HR := Aside0.mk hr
  have HR2 := Aside0.mk hr2
  clear hr hr2
  have HB := Aside0.mk (Below.refl w.heap.size w)
  go_enter Try.func43, Try.ntmps43
  go_wp2
  go_loopw [5] (fun v w' => ∃ (n i : Nat), v = .int .i64 (i : Int) ∧ Aside0 (i + n = l.length) ∧ Aside0 (Below w.heap.size w w')) (fun v _ => l.length - (intOf v).toNat)
  case atStart => exact ⟨l.length, 0, rfl, ⟨by omega⟩, HB⟩
  case round =>
    obtain ⟨n, i, rfl, HI, HB⟩ := hrel
    cases n with
    | zero =>
      have hlt : decide ((i : Int) < (l.length : Int)) = false := decide_eq_false (by have := HI.out; omega)
      have hlt2 : decide (i < l.length) = false := decide_eq_false (by have := HI.out; omega)
      go_wp2
      go_ret
      exact ⟨rfl, HB.out⟩
    | succ n =>
      have hlt : decide ((i : Int) < (l.length : Int)) = true := decide_eq_true (by have := HI.out; omega)
      have hlt2 : decide (i < l.length) = true := decide_eq_true (by have := HI.out; omega)
      have q0 : (0 : Int) ≤ (i : Int) := by omega
      have q1 : (i : Int) < (l.length : Int) := by have := HI.out; omega
      have q2 : (i < l.length) = True := eq_true (by have := HI.out; omega)
      have HW := Aside0.mk (show wrap64 ((i : Int) + 1) = ((i + 1 : Nat) : Int) by have := HI.out; have := HM.out; unfold wrap64; omega)
      have HL := Aside0.mk (show i < l.length by have := HI.out; omega)
      obtain ⟨ad, ea, hx0⟩ := Kd.at_int (Kd.C_below HR.out HB.out) (i : Int) q0 q1
      obtain ⟨bd, eb, hy0⟩ := Kd.at_int (Kd.C_below HR2.out HB.out) (i : Int) q0 q1
      subst ea eb
      simp only [Int.toNat_natCast] at hx0 hy0
      replace q0 := eq_true q0
      replace q1 := eq_true q1
      go_wp2
      go_quiet (fail)
      all_goals go_wp2
      all_goals
        go_roundw
        case rel => exact ⟨n, i + 1, congrArg (Value.int .i64) HW.out, ⟨by have := HI.out; omega⟩, ⟨by repeat (first | (with_reducible first | exact HB.out | apply below_alloc | apply pw_below_drewN | apply below_drew1) | exact HB.out)⟩⟩
        case measure => rw [HW.out]; have := HL.out; show l.length - ((i + 1 : Nat) : Int).toNat < l.length - ((i : Nat) : Int).toNat; omega
set_option maxHeartbeats 4000000 in
set_option maxRecDepth 100000 in
theorem eq62 (x : S47) (w : World) :
    Calls Try.prog 62 #[.agg #[.int .i64 x.f0, .int .i64 x.f1, .string x.f2], .agg #[.int .i64 x.f0, .int .i64 x.f1, .string x.f2]] w fun e w' => e = .returned (.bool true) ∧ Below w.heap.size w w' := by
  have hu := Try.underlying47
  have HB := Aside0.mk (Below.refl w.heap.size w)
  go_enter Try.func62, Try.ntmps62
  go_wp2_with (first
    | ((with_reducible refine gate_dst (N := 2) rfl ?_); refine box_event ?hg (N := 2) ?hd (cs := #[.int .i64 x.f0, .int .i64 x.f1, .string x.f2]) (t := 47) ?hr ?_; (case hd => rfl); (case hg => rfl); (case hr => first | (go_simp; done) | (go_simp; rfl)); intro b2 hg w2 hbox hb; have n0_ := Aside0.mk (below_step HB.out hb); clear HB; have HB := n0_; clear n0_; have BK2 := Aside0.mk hbox; clear hbox hg hb)
    | ((with_reducible refine gate_dst (N := 3) rfl ?_); refine box_event ?hg (N := 3) ?hd (cs := #[.int .i64 x.f0, .int .i64 x.f1, .string x.f2]) (t := 47) ?hr ?_; (case hd => rfl); (case hg => rfl); (case hr => first | (go_simp; done) | (go_simp; rfl)); intro b3 hg w3 hbox hb; have n1_ := Aside0.mk (blk_below BK2.out hb); clear BK2; have BK2 := n1_; clear n1_; have n0_ := Aside0.mk (below_step HB.out hb); clear HB; have HB := n0_; clear n0_; have BK3 := Aside0.mk hbox; clear hbox hg hb; have hc2_0_w3 := (show w3.cell? ⟨b2, 0, none⟩ = some (.int .i64 x.f0) from (blk_cell BK2.out 0).trans rfl); have hc2_1_w3 := (show w3.cell? ⟨b2, 1, none⟩ = some (.int .i64 x.f1) from (blk_cell BK2.out 1).trans rfl); have hc2_2_w3 := (show w3.cell? ⟨b2, 2, none⟩ = some (.string x.f2) from (blk_cell BK2.out 2).trans rfl); have hc3_0_w3 := (show w3.cell? ⟨b3, 0, none⟩ = some (.int .i64 x.f0) from (blk_cell BK3.out 0).trans rfl); have hc3_1_w3 := (show w3.cell? ⟨b3, 1, none⟩ = some (.int .i64 x.f1) from (blk_cell BK3.out 1).trans rfl); have hc3_2_w3 := (show w3.cell? ⟨b3, 2, none⟩ = some (.string x.f2) from (blk_cell BK3.out 2).trans rfl)))
  go_ret
  exact ⟨rfl, HB.out⟩
set_option maxHeartbeats 4000000 in
set_option maxRecDepth 100000 in
theorem eq59 (x : S49) (A7 : Option Addr) (c7 : Nat) (B7 : Option Addr) (d7 : Nat) (w : World) (g7 : Kd.C (Kd.int .i64) w A7 x.f5.length x.f5) (l7 : x.f5.length ≤ c7) (h7 : Kd.C (Kd.int .i64) w B7 x.f5.length x.f5) (m7 : x.f5.length ≤ d7) :
    Calls Try.prog 59 #[.agg #[.int .i64 x.f0, .int .i64 x.f1, .int .i64 x.f2, .int .i64 x.f3, .int .i64 x.f4.f0, .int .i64 x.f4.f1, .string x.f4.f2, .slice A7 x.f5.length c7], .agg #[.int .i64 x.f0, .int .i64 x.f1, .int .i64 x.f2, .int .i64 x.f3, .int .i64 x.f4.f0, .int .i64 x.f4.f1, .string x.f4.f2, .slice B7 x.f5.length d7]] w fun e w' => e = .returned (.bool true) ∧ Below w.heap.size w w' := by
  have hu := Try.underlying49
  have G7 := Aside0.mk g7
  have L7 := Aside0.mk l7
  have H7 := Aside0.mk h7
  have M7 := Aside0.mk m7
  clear g7 l7 h7 m7
  have HB := Aside0.mk (Below.refl w.heap.size w)
  go_enter Try.func59, Try.ntmps59
  have tok0 : True := trivial
  have tok1 : True := trivial
  go_wp2_with (first
    | ((with_reducible refine gate_dst (N := 2) rfl ?_); refine box_event ?hg (N := 2) ?hd (cs := #[.int .i64 x.f0, .int .i64 x.f1, .int .i64 x.f2, .int .i64 x.f3, .int .i64 x.f4.f0, .int .i64 x.f4.f1, .string x.f4.f2, .slice A7 x.f5.length c7]) (t := 49) ?hr ?_; (case hd => rfl); (case hg => rfl); (case hr => first | (go_simp; done) | (go_simp; rfl)); intro b2 hg w2 hbox hb; have n0_ := Aside0.mk (below_step HB.out hb); clear HB; have HB := n0_; clear n0_; have BK2 := Aside0.mk hbox; clear hbox hg hb)
    | ((with_reducible refine gate_dst (N := 3) rfl ?_); refine box_event ?hg (N := 3) ?hd (cs := #[.int .i64 x.f0, .int .i64 x.f1, .int .i64 x.f2, .int .i64 x.f3, .int .i64 x.f4.f0, .int .i64 x.f4.f1, .string x.f4.f2, .slice B7 x.f5.length d7]) (t := 49) ?hr ?_; (case hd => rfl); (case hg => rfl); (case hr => first | (go_simp; done) | (go_simp; rfl)); intro b3 hg w3 hbox hb; have n1_ := Aside0.mk (blk_below BK2.out hb); clear BK2; have BK2 := n1_; clear n1_; have n0_ := Aside0.mk (below_step HB.out hb); clear HB; have HB := n0_; clear n0_; have BK3 := Aside0.mk hbox; clear hbox hg hb; have hc2_0_w3 := (show w3.cell? ⟨b2, 0, none⟩ = some (.int .i64 x.f0) from (blk_cell BK2.out 0).trans rfl); have hc2_1_w3 := (show w3.cell? ⟨b2, 1, none⟩ = some (.int .i64 x.f1) from (blk_cell BK2.out 1).trans rfl); have hc2_2_w3 := (show w3.cell? ⟨b2, 2, none⟩ = some (.int .i64 x.f2) from (blk_cell BK2.out 2).trans rfl); have hc2_3_w3 := (show w3.cell? ⟨b2, 3, none⟩ = some (.int .i64 x.f3) from (blk_cell BK2.out 3).trans rfl); have hc2_4_w3 := (show w3.cell? ⟨b2, 4, none⟩ = some (.int .i64 x.f4.f0) from (blk_cell BK2.out 4).trans rfl); have hc2_5_w3 := (show w3.cell? ⟨b2, 5, none⟩ = some (.int .i64 x.f4.f1) from (blk_cell BK2.out 5).trans rfl); have hc2_6_w3 := (show w3.cell? ⟨b2, 6, none⟩ = some (.string x.f4.f2) from (blk_cell BK2.out 6).trans rfl); have hc3_0_w3 := (show w3.cell? ⟨b3, 0, none⟩ = some (.int .i64 x.f0) from (blk_cell BK3.out 0).trans rfl); have hc3_1_w3 := (show w3.cell? ⟨b3, 1, none⟩ = some (.int .i64 x.f1) from (blk_cell BK3.out 1).trans rfl); have hc3_2_w3 := (show w3.cell? ⟨b3, 2, none⟩ = some (.int .i64 x.f2) from (blk_cell BK3.out 2).trans rfl); have hc3_3_w3 := (show w3.cell? ⟨b3, 3, none⟩ = some (.int .i64 x.f3) from (blk_cell BK3.out 3).trans rfl); have hc3_4_w3 := (show w3.cell? ⟨b3, 4, none⟩ = some (.int .i64 x.f4.f0) from (blk_cell BK3.out 4).trans rfl); have hc3_5_w3 := (show w3.cell? ⟨b3, 5, none⟩ = some (.int .i64 x.f4.f1) from (blk_cell BK3.out 5).trans rfl); have hc3_6_w3 := (show w3.cell? ⟨b3, 6, none⟩ = some (.string x.f4.f2) from (blk_cell BK3.out 6).trans rfl))
    | (go_at_call 62; have t_ := tok0; clear t_; (with_reducible refine (eq62 x.f4 _).mono ?_); rintro e v0 ⟨rfl, hb⟩; have n0_ := Aside0.mk (below_step HB.out hb); have n1_ := Aside0.mk (blk_below BK2.out hb); have n2_ := Aside0.mk (blk_below BK3.out hb); clear HB BK2 BK3 hb; have HB := n0_; have BK2 := n1_; have BK3 := n2_; clear n0_ n1_ n2_; have hc2_7_v0 := (show v0.cell? ⟨b2, 7, none⟩ = some (.slice A7 x.f5.length c7) from (blk_cell BK2.out 7).trans rfl); have hc3_7_v0 := (show v0.cell? ⟨b3, 7, none⟩ = some (.slice B7 x.f5.length d7) from (blk_cell BK3.out 7).trans rfl); clear tok0)
    | (go_at_call 43; have t_ := tok1; clear t_; (with_reducible refine (eq43 x.f5 A7 c7 B7 d7 _ (Kd.C_below G7.out HB.out) L7.out (Kd.C_below H7.out HB.out) M7.out).mono ?_); rintro e v1 ⟨rfl, hb⟩; have n0_ := Aside0.mk (below_step HB.out hb); have n1_ := Aside0.mk (blk_below BK2.out hb); have n2_ := Aside0.mk (blk_below BK3.out hb); clear HB BK2 BK3 hb; have HB := n0_; have BK2 := n1_; have BK3 := n2_; clear n0_ n1_ n2_; clear tok1))
  go_ret
  exact ⟨rfl, HB.out⟩
set_option maxHeartbeats 4000000 in
set_option maxRecDepth 100000 in
theorem eq56 (l : List S49) (A0 : Option Addr) (c0 : Nat) (B0 : Option Addr) (d0 : Nat) (w : World) (hr : Kd.C k49 w A0 l.length l) (hc : l.length ≤ c0) (hr2 : Kd.C k49 w B0 l.length l) (hc2 : l.length ≤ d0) :
    Calls Try.prog 56 #[.slice A0 l.length c0, .slice B0 l.length d0] w fun e w' => e = .returned (.bool true) ∧ Below w.heap.size w w' := by
  have HM := Aside0.mk (show l.length ≤ 9223372036854775807 from hr.2.1)
  have HR := Aside0.mk hr
  have HR2 := Aside0.mk hr2
  clear hr hr2
  have HB := Aside0.mk (Below.refl w.heap.size w)
  go_enter Try.func56, Try.ntmps56
  go_wp2
  go_loopw [5] (fun v w' => ∃ (n i : Nat), v = .int .i64 (i : Int) ∧ Aside0 (i + n = l.length) ∧ Aside0 (Below w.heap.size w w')) (fun v _ => l.length - (intOf v).toNat)
  case atStart => exact ⟨l.length, 0, rfl, ⟨by omega⟩, HB⟩
  case round =>
    obtain ⟨n, i, rfl, HI, HB⟩ := hrel
    cases n with
    | zero =>
      have hlt : decide ((i : Int) < (l.length : Int)) = false := decide_eq_false (by have := HI.out; omega)
      have hlt2 : decide (i < l.length) = false := decide_eq_false (by have := HI.out; omega)
      go_wp2
      go_ret
      exact ⟨rfl, HB.out⟩
    | succ n =>
      have hlt : decide ((i : Int) < (l.length : Int)) = true := decide_eq_true (by have := HI.out; omega)
      have hlt2 : decide (i < l.length) = true := decide_eq_true (by have := HI.out; omega)
      have q0 : (0 : Int) ≤ (i : Int) := by omega
      have q1 : (i : Int) < (l.length : Int) := by have := HI.out; omega
      have q2 : (i < l.length) = True := eq_true (by have := HI.out; omega)
      have HW := Aside0.mk (show wrap64 ((i : Int) + 1) = ((i + 1 : Nat) : Int) by have := HI.out; have := HM.out; unfold wrap64; omega)
      have HL := Aside0.mk (show i < l.length by have := HI.out; omega)
      obtain ⟨ad, A7, c7, ea, hx0, hx1, hx2, hx3, hx4, hx5, hx6, hx7, l7, g7⟩ := at_T49 (Kd.C_below HR.out HB.out) (i : Int) q0 q1
      obtain ⟨bd, B7, d7, eb, hy0, hy1, hy2, hy3, hy4, hy5, hy6, hy7, m7, h7⟩ := at_T49 (Kd.C_below HR2.out HB.out) (i : Int) q0 q1
      subst ea eb
      simp only [Int.toNat_natCast] at hx0 hx1 hx2 hx3 hx4 hx5 hx6 hx7 hy0 hy1 hy2 hy3 hy4 hy5 hy6 hy7
      obtain ⟨x, hX⟩ : ∃ x, rd_T49 l (i : Int) = x := ⟨_, rfl⟩
      rw [hX] at hx0 hx1 hx2 hx3 hx4 hx5 hx6 hx7 hy0 hy1 hy2 hy3 hy4 hy5 hy6 hy7
      simp only [hX] at g7 l7 h7 m7
      have G7 := Aside0.mk g7
      have L7 := Aside0.mk l7
      have H7 := Aside0.mk h7
      have M7 := Aside0.mk m7
      clear hX g7 l7 h7 m7
      replace q0 := eq_true q0
      replace q1 := eq_true q1
      go_wp2
      go_region_held3 (fun w' => w'.cell? (ad.add (i * 8)) = some (.int .i64 x.f0) ∧ w'.cell? ⟨(ad.add (i * 8)).block, (ad.add (i * 8)).off + 1, none⟩ = some (.int .i64 x.f1) ∧ w'.cell? ⟨(ad.add (i * 8)).block, (ad.add (i * 8)).off + 2, none⟩ = some (.int .i64 x.f2) ∧ w'.cell? ⟨(ad.add (i * 8)).block, (ad.add (i * 8)).off + 3, none⟩ = some (.int .i64 x.f3) ∧ w'.cell? ⟨(ad.add (i * 8)).block, (ad.add (i * 8)).off + 4, none⟩ = some (.int .i64 x.f4.f0) ∧ w'.cell? ⟨(ad.add (i * 8)).block, (ad.add (i * 8)).off + 5, none⟩ = some (.int .i64 x.f4.f1) ∧ w'.cell? ⟨(ad.add (i * 8)).block, (ad.add (i * 8)).off + 6, none⟩ = some (.string x.f4.f2) ∧ w'.cell? ⟨(ad.add (i * 8)).block, (ad.add (i * 8)).off + 7, none⟩ = some (.slice A7 x.f5.length c7) ∧ w'.cell? (bd.add (i * 8)) = some (.int .i64 x.f0) ∧ w'.cell? ⟨(bd.add (i * 8)).block, (bd.add (i * 8)).off + 1, none⟩ = some (.int .i64 x.f1) ∧ w'.cell? ⟨(bd.add (i * 8)).block, (bd.add (i * 8)).off + 2, none⟩ = some (.int .i64 x.f2) ∧ w'.cell? ⟨(bd.add (i * 8)).block, (bd.add (i * 8)).off + 3, none⟩ = some (.int .i64 x.f3) ∧ w'.cell? ⟨(bd.add (i * 8)).block, (bd.add (i * 8)).off + 4, none⟩ = some (.int .i64 x.f4.f0) ∧ w'.cell? ⟨(bd.add (i * 8)).block, (bd.add (i * 8)).off + 5, none⟩ = some (.int .i64 x.f4.f1) ∧ w'.cell? ⟨(bd.add (i * 8)).block, (bd.add (i * 8)).off + 6, none⟩ = some (.string x.f4.f2) ∧ w'.cell? ⟨(bd.add (i * 8)).block, (bd.add (i * 8)).off + 7, none⟩ = some (.slice B7 x.f5.length d7)) (first | ((repeat' apply And.intro) <;> (first | assumption | (apply pw_cell_below HK.out; assumption))) | go_keep) (first | (go_at_call 59; (with_reducible refine (eq59 x A7 c7 B7 d7 _ (Kd.C_drew G7.out) L7.out (Kd.C_drew H7.out) M7.out).mono ?_); rintro e w9 ⟨rfl, hb⟩; have HK := Aside0.mk (below_step (below_drew1 (Below.refl wr.heap.size wr)) hb); have n0_ := Aside0.mk (below_step HB.out HK.out); clear HB hb; have HB := n0_; clear n0_))
      all_goals go_wp2
      all_goals
        go_roundw
        case rel => exact ⟨n, i + 1, congrArg (Value.int .i64) HW.out, ⟨by have := HI.out; omega⟩, ⟨HB.out⟩⟩
        case measure => rw [HW.out]; have := HL.out; show l.length - ((i + 1 : Nat) : Int).toNat < l.length - ((i : Nat) : Int).toNat; omega
set_option maxHeartbeats 4000000 in
set_option maxRecDepth 100000 in
theorem eq51 (x : S44) (A0 : Option Addr) (c0 : Nat) (B0 : Option Addr) (d0 : Nat) (w : World) (g0 : Kd.C k49 w A0 x.f0.length x.f0) (l0 : x.f0.length ≤ c0) (h0 : Kd.C k49 w B0 x.f0.length x.f0) (m0 : x.f0.length ≤ d0) :
    Calls Try.prog 51 #[.agg #[.slice A0 x.f0.length c0], .agg #[.slice B0 x.f0.length d0]] w fun e w' => e = .returned (.bool true) ∧ Below w.heap.size w w' := by
  have hu := Try.underlying44
  have G0 := Aside0.mk g0
  have L0 := Aside0.mk l0
  have H0 := Aside0.mk h0
  have M0 := Aside0.mk m0
  clear g0 l0 h0 m0
  have HB := Aside0.mk (Below.refl w.heap.size w)
  go_enter Try.func51, Try.ntmps51
  have tok0 : True := trivial
  go_wp2_with (first
    | ((with_reducible refine gate_dst (N := 2) rfl ?_); refine box_event ?hg (N := 2) ?hd (cs := #[.slice A0 x.f0.length c0]) (t := 44) ?hr ?_; (case hd => rfl); (case hg => rfl); (case hr => first | (go_simp; done) | (go_simp; rfl)); intro b2 hg w2 hbox hb; have n0_ := Aside0.mk (below_step HB.out hb); clear HB; have HB := n0_; clear n0_; have BK2 := Aside0.mk hbox; clear hbox hg hb)
    | ((with_reducible refine gate_dst (N := 3) rfl ?_); refine box_event ?hg (N := 3) ?hd (cs := #[.slice B0 x.f0.length d0]) (t := 44) ?hr ?_; (case hd => rfl); (case hg => rfl); (case hr => first | (go_simp; done) | (go_simp; rfl)); intro b3 hg w3 hbox hb; have n1_ := Aside0.mk (blk_below BK2.out hb); clear BK2; have BK2 := n1_; clear n1_; have n0_ := Aside0.mk (below_step HB.out hb); clear HB; have HB := n0_; clear n0_; have BK3 := Aside0.mk hbox; clear hbox hg hb; have hc2_0_w3 := (show w3.cell? ⟨b2, 0, none⟩ = some (.slice A0 x.f0.length c0) from (blk_cell BK2.out 0).trans rfl); have hc3_0_w3 := (show w3.cell? ⟨b3, 0, none⟩ = some (.slice B0 x.f0.length d0) from (blk_cell BK3.out 0).trans rfl))
    | (go_at_call 56; have t_ := tok0; clear t_; (with_reducible refine (eq56 x.f0 A0 c0 B0 d0 _ (Kd.C_below G0.out HB.out) L0.out (Kd.C_below H0.out HB.out) M0.out).mono ?_); rintro e v0 ⟨rfl, hb⟩; have n0_ := Aside0.mk (below_step HB.out hb); have n1_ := Aside0.mk (blk_below BK2.out hb); have n2_ := Aside0.mk (blk_below BK3.out hb); clear HB BK2 BK3 hb; have HB := n0_; have BK2 := n1_; have BK3 := n2_; clear n0_ n1_ n2_; clear tok0))
  go_ret
  exact ⟨rfl, HB.out⟩
set_option maxHeartbeats 4000000 in
set_option maxRecDepth 100000 in
theorem eq42 (l : List S44) (A0 : Option Addr) (c0 : Nat) (B0 : Option Addr) (d0 : Nat) (w : World) (hr : Kd.C k44 w A0 l.length l) (hc : l.length ≤ c0) (hr2 : Kd.C k44 w B0 l.length l) (hc2 : l.length ≤ d0) :
    Calls Try.prog 42 #[.slice A0 l.length c0, .slice B0 l.length d0] w fun e w' => e = .returned (.bool true) ∧ Below w.heap.size w w' := by
  have HM := Aside0.mk (show l.length ≤ 9223372036854775807 from hr.2.1)
  have HR := Aside0.mk hr
  have HR2 := Aside0.mk hr2
  clear hr hr2
  have HB := Aside0.mk (Below.refl w.heap.size w)
  go_enter Try.func42, Try.ntmps42
  go_wp2
  go_loopw [5] (fun v w' => ∃ (n i : Nat), v = .int .i64 (i : Int) ∧ Aside0 (i + n = l.length) ∧ Aside0 (Below w.heap.size w w')) (fun v _ => l.length - (intOf v).toNat)
  case atStart => exact ⟨l.length, 0, rfl, ⟨by omega⟩, HB⟩
  case round =>
    obtain ⟨n, i, rfl, HI, HB⟩ := hrel
    cases n with
    | zero =>
      have hlt : decide ((i : Int) < (l.length : Int)) = false := decide_eq_false (by have := HI.out; omega)
      have hlt2 : decide (i < l.length) = false := decide_eq_false (by have := HI.out; omega)
      go_wp2
      go_ret
      exact ⟨rfl, HB.out⟩
    | succ n =>
      have hlt : decide ((i : Int) < (l.length : Int)) = true := decide_eq_true (by have := HI.out; omega)
      have hlt2 : decide (i < l.length) = true := decide_eq_true (by have := HI.out; omega)
      have q0 : (0 : Int) ≤ (i : Int) := by omega
      have q1 : (i : Int) < (l.length : Int) := by have := HI.out; omega
      have q2 : (i < l.length) = True := eq_true (by have := HI.out; omega)
      have HW := Aside0.mk (show wrap64 ((i : Int) + 1) = ((i + 1 : Nat) : Int) by have := HI.out; have := HM.out; unfold wrap64; omega)
      have HL := Aside0.mk (show i < l.length by have := HI.out; omega)
      obtain ⟨ad, A0, c0, ea, hx0, l0, g0⟩ := at_T44 (Kd.C_below HR.out HB.out) (i : Int) q0 q1
      obtain ⟨bd, B0, d0, eb, hy0, m0, h0⟩ := at_T44 (Kd.C_below HR2.out HB.out) (i : Int) q0 q1
      subst ea eb
      simp only [Int.toNat_natCast] at hx0 hy0
      obtain ⟨x, hX⟩ : ∃ x, rd_T44 l (i : Int) = x := ⟨_, rfl⟩
      rw [hX] at hx0 hy0
      simp only [hX] at g0 l0 h0 m0
      have G0 := Aside0.mk g0
      have L0 := Aside0.mk l0
      have H0 := Aside0.mk h0
      have M0 := Aside0.mk m0
      clear hX g0 l0 h0 m0
      replace q0 := eq_true q0
      replace q1 := eq_true q1
      go_wp2
      go_region_held3 (fun w' => w'.cell? (ad.add i) = some (.slice A0 x.f0.length c0) ∧ w'.cell? (bd.add i) = some (.slice B0 x.f0.length d0)) (first | ((repeat' apply And.intro) <;> (first | assumption | (apply pw_cell_below HK.out; assumption))) | go_keep) (first | (go_at_call 51; (with_reducible refine (eq51 x A0 c0 B0 d0 _ (Kd.C_drew G0.out) L0.out (Kd.C_drew H0.out) M0.out).mono ?_); rintro e w9 ⟨rfl, hb⟩; have HK := Aside0.mk (below_step (below_drew1 (Below.refl wr.heap.size wr)) hb); have n0_ := Aside0.mk (below_step HB.out HK.out); clear HB hb; have HB := n0_; clear n0_))
      all_goals go_wp2
      all_goals
        go_roundw
        case rel => exact ⟨n, i + 1, congrArg (Value.int .i64) HW.out, ⟨by have := HI.out; omega⟩, ⟨HB.out⟩⟩
        case measure => rw [HW.out]; have := HL.out; show l.length - ((i + 1 : Nat) : Int).toNat < l.length - ((i : Nat) : Int).toNat; omega
set_option maxHeartbeats 4000000 in
set_option maxRecDepth 100000 in
theorem eq52 (x : S53) (w : World) :
    Calls Try.prog 52 #[.agg #[.int .i64 x.f0, .int .i64 x.f1, .bool x.f2], .agg #[.int .i64 x.f0, .int .i64 x.f1, .bool x.f2]] w fun e w' => e = .returned (.bool true) ∧ Below w.heap.size w w' := by
  have hu := Try.underlying53
  have HB := Aside0.mk (Below.refl w.heap.size w)
  go_enter Try.func52, Try.ntmps52
  go_wp2_with (first
    | ((with_reducible refine gate_dst (N := 2) rfl ?_); refine box_event ?hg (N := 2) ?hd (cs := #[.int .i64 x.f0, .int .i64 x.f1, .bool x.f2]) (t := 53) ?hr ?_; (case hd => rfl); (case hg => rfl); (case hr => first | (go_simp; done) | (go_simp; rfl)); intro b2 hg w2 hbox hb; have n0_ := Aside0.mk (below_step HB.out hb); clear HB; have HB := n0_; clear n0_; have BK2 := Aside0.mk hbox; clear hbox hg hb)
    | ((with_reducible refine gate_dst (N := 3) rfl ?_); refine box_event ?hg (N := 3) ?hd (cs := #[.int .i64 x.f0, .int .i64 x.f1, .bool x.f2]) (t := 53) ?hr ?_; (case hd => rfl); (case hg => rfl); (case hr => first | (go_simp; done) | (go_simp; rfl)); intro b3 hg w3 hbox hb; have n1_ := Aside0.mk (blk_below BK2.out hb); clear BK2; have BK2 := n1_; clear n1_; have n0_ := Aside0.mk (below_step HB.out hb); clear HB; have HB := n0_; clear n0_; have BK3 := Aside0.mk hbox; clear hbox hg hb; have hc2_0_w3 := (show w3.cell? ⟨b2, 0, none⟩ = some (.int .i64 x.f0) from (blk_cell BK2.out 0).trans rfl); have hc2_1_w3 := (show w3.cell? ⟨b2, 1, none⟩ = some (.int .i64 x.f1) from (blk_cell BK2.out 1).trans rfl); have hc2_2_w3 := (show w3.cell? ⟨b2, 2, none⟩ = some (.bool x.f2) from (blk_cell BK2.out 2).trans rfl); have hc3_0_w3 := (show w3.cell? ⟨b3, 0, none⟩ = some (.int .i64 x.f0) from (blk_cell BK3.out 0).trans rfl); have hc3_1_w3 := (show w3.cell? ⟨b3, 1, none⟩ = some (.int .i64 x.f1) from (blk_cell BK3.out 1).trans rfl); have hc3_2_w3 := (show w3.cell? ⟨b3, 2, none⟩ = some (.bool x.f2) from (blk_cell BK3.out 2).trans rfl)))
  go_ret
  exact ⟨rfl, HB.out⟩
set_option maxHeartbeats 4000000 in
set_option maxRecDepth 100000 in
theorem eq44 (l : List S53) (A0 : Option Addr) (c0 : Nat) (B0 : Option Addr) (d0 : Nat) (w : World) (hr : Kd.C k53 w A0 l.length l) (hc : l.length ≤ c0) (hr2 : Kd.C k53 w B0 l.length l) (hc2 : l.length ≤ d0) :
    Calls Try.prog 44 #[.slice A0 l.length c0, .slice B0 l.length d0] w fun e w' => e = .returned (.bool true) ∧ Below w.heap.size w w' := by
  have HM := Aside0.mk (show l.length ≤ 9223372036854775807 from hr.2.1)
  have HR := Aside0.mk hr
  have HR2 := Aside0.mk hr2
  clear hr hr2
  have HB := Aside0.mk (Below.refl w.heap.size w)
  go_enter Try.func44, Try.ntmps44
  go_wp2
  go_loopw [5] (fun v w' => ∃ (n i : Nat), v = .int .i64 (i : Int) ∧ Aside0 (i + n = l.length) ∧ Aside0 (Below w.heap.size w w')) (fun v _ => l.length - (intOf v).toNat)
  case atStart => exact ⟨l.length, 0, rfl, ⟨by omega⟩, HB⟩
  case round =>
    obtain ⟨n, i, rfl, HI, HB⟩ := hrel
    cases n with
    | zero =>
      have hlt : decide ((i : Int) < (l.length : Int)) = false := decide_eq_false (by have := HI.out; omega)
      have hlt2 : decide (i < l.length) = false := decide_eq_false (by have := HI.out; omega)
      go_wp2
      go_ret
      exact ⟨rfl, HB.out⟩
    | succ n =>
      have hlt : decide ((i : Int) < (l.length : Int)) = true := decide_eq_true (by have := HI.out; omega)
      have hlt2 : decide (i < l.length) = true := decide_eq_true (by have := HI.out; omega)
      have q0 : (0 : Int) ≤ (i : Int) := by omega
      have q1 : (i : Int) < (l.length : Int) := by have := HI.out; omega
      have q2 : (i < l.length) = True := eq_true (by have := HI.out; omega)
      have HW := Aside0.mk (show wrap64 ((i : Int) + 1) = ((i + 1 : Nat) : Int) by have := HI.out; have := HM.out; unfold wrap64; omega)
      have HL := Aside0.mk (show i < l.length by have := HI.out; omega)
      obtain ⟨ad, ea, hx0, hx1, hx2⟩ := at_T53 (Kd.C_below HR.out HB.out) (i : Int) q0 q1
      obtain ⟨bd, eb, hy0, hy1, hy2⟩ := at_T53 (Kd.C_below HR2.out HB.out) (i : Int) q0 q1
      subst ea eb
      simp only [Int.toNat_natCast] at hx0 hx1 hx2 hy0 hy1 hy2
      obtain ⟨x, hX⟩ : ∃ x, rd_T53 l (i : Int) = x := ⟨_, rfl⟩
      rw [hX] at hx0 hx1 hx2 hy0 hy1 hy2
      clear hX 
      replace q0 := eq_true q0
      replace q1 := eq_true q1
      go_wp2
      go_region_held3 (fun w' => w'.cell? (ad.add (i * 3)) = some (.int .i64 x.f0) ∧ w'.cell? ⟨(ad.add (i * 3)).block, (ad.add (i * 3)).off + 1, none⟩ = some (.int .i64 x.f1) ∧ w'.cell? ⟨(ad.add (i * 3)).block, (ad.add (i * 3)).off + 2, none⟩ = some (.bool x.f2) ∧ w'.cell? (bd.add (i * 3)) = some (.int .i64 x.f0) ∧ w'.cell? ⟨(bd.add (i * 3)).block, (bd.add (i * 3)).off + 1, none⟩ = some (.int .i64 x.f1) ∧ w'.cell? ⟨(bd.add (i * 3)).block, (bd.add (i * 3)).off + 2, none⟩ = some (.bool x.f2)) (first | ((repeat' apply And.intro) <;> (first | assumption | (apply pw_cell_below HK.out; assumption))) | go_keep) (first | (go_at_call 52; (with_reducible refine (eq52 x _).mono ?_); rintro e w9 ⟨rfl, hb⟩; have HK := Aside0.mk (below_step (below_drew1 (Below.refl wr.heap.size wr)) hb); have n0_ := Aside0.mk (below_step HB.out HK.out); clear HB hb; have HB := n0_; clear n0_))
      all_goals go_wp2
      all_goals
        go_roundw
        case rel => exact ⟨n, i + 1, congrArg (Value.int .i64) HW.out, ⟨by have := HI.out; omega⟩, ⟨HB.out⟩⟩
        case measure => rw [HW.out]; have := HL.out; show l.length - ((i + 1 : Nat) : Int).toNat < l.length - ((i : Nat) : Int).toNat; omega
set_option maxHeartbeats 4000000 in
set_option maxRecDepth 100000 in
theorem eq53 (x : S92) (w : World) :
    Calls Try.prog 53 #[.agg #[.int .i64 x.f0, .bool x.f1, .bool x.f2], .agg #[.int .i64 x.f0, .bool x.f1, .bool x.f2]] w fun e w' => e = .returned (.bool true) ∧ Below w.heap.size w w' := by
  have hu := Try.underlying92
  have HB := Aside0.mk (Below.refl w.heap.size w)
  go_enter Try.func53, Try.ntmps53
  go_wp2_with (first
    | ((with_reducible refine gate_dst (N := 2) rfl ?_); refine box_event ?hg (N := 2) ?hd (cs := #[.int .i64 x.f0, .bool x.f1, .bool x.f2]) (t := 92) ?hr ?_; (case hd => rfl); (case hg => rfl); (case hr => first | (go_simp; done) | (go_simp; rfl)); intro b2 hg w2 hbox hb; have n0_ := Aside0.mk (below_step HB.out hb); clear HB; have HB := n0_; clear n0_; have BK2 := Aside0.mk hbox; clear hbox hg hb)
    | ((with_reducible refine gate_dst (N := 3) rfl ?_); refine box_event ?hg (N := 3) ?hd (cs := #[.int .i64 x.f0, .bool x.f1, .bool x.f2]) (t := 92) ?hr ?_; (case hd => rfl); (case hg => rfl); (case hr => first | (go_simp; done) | (go_simp; rfl)); intro b3 hg w3 hbox hb; have n1_ := Aside0.mk (blk_below BK2.out hb); clear BK2; have BK2 := n1_; clear n1_; have n0_ := Aside0.mk (below_step HB.out hb); clear HB; have HB := n0_; clear n0_; have BK3 := Aside0.mk hbox; clear hbox hg hb; have hc2_0_w3 := (show w3.cell? ⟨b2, 0, none⟩ = some (.int .i64 x.f0) from (blk_cell BK2.out 0).trans rfl); have hc2_1_w3 := (show w3.cell? ⟨b2, 1, none⟩ = some (.bool x.f1) from (blk_cell BK2.out 1).trans rfl); have hc2_2_w3 := (show w3.cell? ⟨b2, 2, none⟩ = some (.bool x.f2) from (blk_cell BK2.out 2).trans rfl); have hc3_0_w3 := (show w3.cell? ⟨b3, 0, none⟩ = some (.int .i64 x.f0) from (blk_cell BK3.out 0).trans rfl); have hc3_1_w3 := (show w3.cell? ⟨b3, 1, none⟩ = some (.bool x.f1) from (blk_cell BK3.out 1).trans rfl); have hc3_2_w3 := (show w3.cell? ⟨b3, 2, none⟩ = some (.bool x.f2) from (blk_cell BK3.out 2).trans rfl)))
  go_ret
  exact ⟨rfl, HB.out⟩
set_option maxHeartbeats 4000000 in
set_option maxRecDepth 100000 in
theorem eq45 (l : List S92) (A0 : Option Addr) (c0 : Nat) (B0 : Option Addr) (d0 : Nat) (w : World) (hr : Kd.C k92 w A0 l.length l) (hc : l.length ≤ c0) (hr2 : Kd.C k92 w B0 l.length l) (hc2 : l.length ≤ d0) :
    Calls Try.prog 45 #[.slice A0 l.length c0, .slice B0 l.length d0] w fun e w' => e = .returned (.bool true) ∧ Below w.heap.size w w' := by
  have HM := Aside0.mk (show l.length ≤ 9223372036854775807 from hr.2.1)
  have HR := Aside0.mk hr
  have HR2 := Aside0.mk hr2
  clear hr hr2
  have HB := Aside0.mk (Below.refl w.heap.size w)
  go_enter Try.func45, Try.ntmps45
  go_wp2
  go_loopw [5] (fun v w' => ∃ (n i : Nat), v = .int .i64 (i : Int) ∧ Aside0 (i + n = l.length) ∧ Aside0 (Below w.heap.size w w')) (fun v _ => l.length - (intOf v).toNat)
  case atStart => exact ⟨l.length, 0, rfl, ⟨by omega⟩, HB⟩
  case round =>
    obtain ⟨n, i, rfl, HI, HB⟩ := hrel
    cases n with
    | zero =>
      have hlt : decide ((i : Int) < (l.length : Int)) = false := decide_eq_false (by have := HI.out; omega)
      have hlt2 : decide (i < l.length) = false := decide_eq_false (by have := HI.out; omega)
      go_wp2
      go_ret
      exact ⟨rfl, HB.out⟩
    | succ n =>
      have hlt : decide ((i : Int) < (l.length : Int)) = true := decide_eq_true (by have := HI.out; omega)
      have hlt2 : decide (i < l.length) = true := decide_eq_true (by have := HI.out; omega)
      have q0 : (0 : Int) ≤ (i : Int) := by omega
      have q1 : (i : Int) < (l.length : Int) := by have := HI.out; omega
      have q2 : (i < l.length) = True := eq_true (by have := HI.out; omega)
      have HW := Aside0.mk (show wrap64 ((i : Int) + 1) = ((i + 1 : Nat) : Int) by have := HI.out; have := HM.out; unfold wrap64; omega)
      have HL := Aside0.mk (show i < l.length by have := HI.out; omega)
      obtain ⟨ad, ea, hx0, hx1, hx2⟩ := at_T92 (Kd.C_below HR.out HB.out) (i : Int) q0 q1
      obtain ⟨bd, eb, hy0, hy1, hy2⟩ := at_T92 (Kd.C_below HR2.out HB.out) (i : Int) q0 q1
      subst ea eb
      simp only [Int.toNat_natCast] at hx0 hx1 hx2 hy0 hy1 hy2
      obtain ⟨x, hX⟩ : ∃ x, rd_T92 l (i : Int) = x := ⟨_, rfl⟩
      rw [hX] at hx0 hx1 hx2 hy0 hy1 hy2
      clear hX 
      replace q0 := eq_true q0
      replace q1 := eq_true q1
      go_wp2
      go_region_held3 (fun w' => w'.cell? (ad.add (i * 3)) = some (.int .i64 x.f0) ∧ w'.cell? ⟨(ad.add (i * 3)).block, (ad.add (i * 3)).off + 1, none⟩ = some (.bool x.f1) ∧ w'.cell? ⟨(ad.add (i * 3)).block, (ad.add (i * 3)).off + 2, none⟩ = some (.bool x.f2) ∧ w'.cell? (bd.add (i * 3)) = some (.int .i64 x.f0) ∧ w'.cell? ⟨(bd.add (i * 3)).block, (bd.add (i * 3)).off + 1, none⟩ = some (.bool x.f1) ∧ w'.cell? ⟨(bd.add (i * 3)).block, (bd.add (i * 3)).off + 2, none⟩ = some (.bool x.f2)) (first | ((repeat' apply And.intro) <;> (first | assumption | (apply pw_cell_below HK.out; assumption))) | go_keep) (first | (go_at_call 53; (with_reducible refine (eq53 x _).mono ?_); rintro e w9 ⟨rfl, hb⟩; have HK := Aside0.mk (below_step (below_drew1 (Below.refl wr.heap.size wr)) hb); have n0_ := Aside0.mk (below_step HB.out HK.out); clear HB hb; have HB := n0_; clear n0_))
      all_goals go_wp2
      all_goals
        go_roundw
        case rel => exact ⟨n, i + 1, congrArg (Value.int .i64) HW.out, ⟨by have := HI.out; omega⟩, ⟨HB.out⟩⟩
        case measure => rw [HW.out]; have := HL.out; show l.length - ((i + 1 : Nat) : Int).toNat < l.length - ((i : Nat) : Int).toNat; omega
set_option maxHeartbeats 4000000 in
set_option maxRecDepth 100000 in
theorem eq24 (x : S39) (A6 : Option Addr) (c6 : Nat) (B6 : Option Addr) (d6 : Nat) (A7 : Option Addr) (c7 : Nat) (B7 : Option Addr) (d7 : Nat) (A8 : Option Addr) (c8 : Nat) (B8 : Option Addr) (d8 : Nat) (A9 : Option Addr) (c9 : Nat) (B9 : Option Addr) (d9 : Nat) (A10 : Option Addr) (c10 : Nat) (B10 : Option Addr) (d10 : Nat) (w : World) (g6 : Kd.C k44 w A6 x.f6.length x.f6) (l6 : x.f6.length ≤ c6) (h6 : Kd.C k44 w B6 x.f6.length x.f6) (m6 : x.f6.length ≤ d6) (g7 : Kd.C (Kd.int .i64) w A7 x.f7.length x.f7) (l7 : x.f7.length ≤ c7) (h7 : Kd.C (Kd.int .i64) w B7 x.f7.length x.f7) (m7 : x.f7.length ≤ d7) (g8 : Kd.C k53 w A8 x.f8.length x.f8) (l8 : x.f8.length ≤ c8) (h8 : Kd.C k53 w B8 x.f8.length x.f8) (m8 : x.f8.length ≤ d8) (g9 : Kd.C k92 w A9 x.f9.length x.f9) (l9 : x.f9.length ≤ c9) (h9 : Kd.C k92 w B9 x.f9.length x.f9) (m9 : x.f9.length ≤ d9) (g10 : Kd.C (Kd.int .i64) w A10 x.f10.length x.f10) (l10 : x.f10.length ≤ c10) (h10 : Kd.C (Kd.int .i64) w B10 x.f10.length x.f10) (m10 : x.f10.length ≤ d10) :
    Calls Try.prog 24 #[.agg #[.int .i64 x.f0, .int .i64 x.f1, .int .i64 x.f2, .int .i64 x.f3, .int .i64 x.f4, .int .i64 x.f5, .slice A6 x.f6.length c6, .slice A7 x.f7.length c7, .slice A8 x.f8.length c8, .slice A9 x.f9.length c9, .slice A10 x.f10.length c10], .agg #[.int .i64 x.f0, .int .i64 x.f1, .int .i64 x.f2, .int .i64 x.f3, .int .i64 x.f4, .int .i64 x.f5, .slice B6 x.f6.length d6, .slice B7 x.f7.length d7, .slice B8 x.f8.length d8, .slice B9 x.f9.length d9, .slice B10 x.f10.length d10]] w fun e w' => e = .returned (.bool true) ∧ Below w.heap.size w w' := by
  have hu := Try.underlying39
  have G6 := Aside0.mk g6
  have L6 := Aside0.mk l6
  have H6 := Aside0.mk h6
  have M6 := Aside0.mk m6
  have G7 := Aside0.mk g7
  have L7 := Aside0.mk l7
  have H7 := Aside0.mk h7
  have M7 := Aside0.mk m7
  have G8 := Aside0.mk g8
  have L8 := Aside0.mk l8
  have H8 := Aside0.mk h8
  have M8 := Aside0.mk m8
  have G9 := Aside0.mk g9
  have L9 := Aside0.mk l9
  have H9 := Aside0.mk h9
  have M9 := Aside0.mk m9
  have G10 := Aside0.mk g10
  have L10 := Aside0.mk l10
  have H10 := Aside0.mk h10
  have M10 := Aside0.mk m10
  clear g6 l6 h6 m6 g7 l7 h7 m7 g8 l8 h8 m8 g9 l9 h9 m9 g10 l10 h10 m10
  have HB := Aside0.mk (Below.refl w.heap.size w)
  go_enter Try.func24, Try.ntmps24
  have tok0 : True := trivial
  have tok1 : True := trivial
  have tok2 : True := trivial
  have tok3 : True := trivial
  have tok4 : True := trivial
  go_wp2_with (first
    | ((with_reducible refine gate_dst (N := 2) rfl ?_); refine box_event ?hg (N := 2) ?hd (cs := #[.int .i64 x.f0, .int .i64 x.f1, .int .i64 x.f2, .int .i64 x.f3, .int .i64 x.f4, .int .i64 x.f5, .slice A6 x.f6.length c6, .slice A7 x.f7.length c7, .slice A8 x.f8.length c8, .slice A9 x.f9.length c9, .slice A10 x.f10.length c10]) (t := 39) ?hr ?_; (case hd => rfl); (case hg => rfl); (case hr => first | (go_simp; done) | (go_simp; rfl)); intro b2 hg w2 hbox hb; have n0_ := Aside0.mk (below_step HB.out hb); clear HB; have HB := n0_; clear n0_; have BK2 := Aside0.mk hbox; clear hbox hg hb)
    | ((with_reducible refine gate_dst (N := 3) rfl ?_); refine box_event ?hg (N := 3) ?hd (cs := #[.int .i64 x.f0, .int .i64 x.f1, .int .i64 x.f2, .int .i64 x.f3, .int .i64 x.f4, .int .i64 x.f5, .slice B6 x.f6.length d6, .slice B7 x.f7.length d7, .slice B8 x.f8.length d8, .slice B9 x.f9.length d9, .slice B10 x.f10.length d10]) (t := 39) ?hr ?_; (case hd => rfl); (case hg => rfl); (case hr => first | (go_simp; done) | (go_simp; rfl)); intro b3 hg w3 hbox hb; have n1_ := Aside0.mk (blk_below BK2.out hb); clear BK2; have BK2 := n1_; clear n1_; have n0_ := Aside0.mk (below_step HB.out hb); clear HB; have HB := n0_; clear n0_; have BK3 := Aside0.mk hbox; clear hbox hg hb; have hc2_0_w3 := (show w3.cell? ⟨b2, 0, none⟩ = some (.int .i64 x.f0) from (blk_cell BK2.out 0).trans rfl); have hc2_1_w3 := (show w3.cell? ⟨b2, 1, none⟩ = some (.int .i64 x.f1) from (blk_cell BK2.out 1).trans rfl); have hc2_2_w3 := (show w3.cell? ⟨b2, 2, none⟩ = some (.int .i64 x.f2) from (blk_cell BK2.out 2).trans rfl); have hc2_3_w3 := (show w3.cell? ⟨b2, 3, none⟩ = some (.int .i64 x.f3) from (blk_cell BK2.out 3).trans rfl); have hc2_4_w3 := (show w3.cell? ⟨b2, 4, none⟩ = some (.int .i64 x.f4) from (blk_cell BK2.out 4).trans rfl); have hc2_5_w3 := (show w3.cell? ⟨b2, 5, none⟩ = some (.int .i64 x.f5) from (blk_cell BK2.out 5).trans rfl); have hc2_6_w3 := (show w3.cell? ⟨b2, 6, none⟩ = some (.slice A6 x.f6.length c6) from (blk_cell BK2.out 6).trans rfl); have hc3_0_w3 := (show w3.cell? ⟨b3, 0, none⟩ = some (.int .i64 x.f0) from (blk_cell BK3.out 0).trans rfl); have hc3_1_w3 := (show w3.cell? ⟨b3, 1, none⟩ = some (.int .i64 x.f1) from (blk_cell BK3.out 1).trans rfl); have hc3_2_w3 := (show w3.cell? ⟨b3, 2, none⟩ = some (.int .i64 x.f2) from (blk_cell BK3.out 2).trans rfl); have hc3_3_w3 := (show w3.cell? ⟨b3, 3, none⟩ = some (.int .i64 x.f3) from (blk_cell BK3.out 3).trans rfl); have hc3_4_w3 := (show w3.cell? ⟨b3, 4, none⟩ = some (.int .i64 x.f4) from (blk_cell BK3.out 4).trans rfl); have hc3_5_w3 := (show w3.cell? ⟨b3, 5, none⟩ = some (.int .i64 x.f5) from (blk_cell BK3.out 5).trans rfl); have hc3_6_w3 := (show w3.cell? ⟨b3, 6, none⟩ = some (.slice B6 x.f6.length d6) from (blk_cell BK3.out 6).trans rfl))
    | (go_at_call 42; have t_ := tok0; clear t_; (with_reducible refine (eq42 x.f6 A6 c6 B6 d6 _ (Kd.C_below G6.out HB.out) L6.out (Kd.C_below H6.out HB.out) M6.out).mono ?_); rintro e v0 ⟨rfl, hb⟩; have n0_ := Aside0.mk (below_step HB.out hb); have n1_ := Aside0.mk (blk_below BK2.out hb); have n2_ := Aside0.mk (blk_below BK3.out hb); clear HB BK2 BK3 hb; have HB := n0_; have BK2 := n1_; have BK3 := n2_; clear n0_ n1_ n2_; have hc2_7_v0 := (show v0.cell? ⟨b2, 7, none⟩ = some (.slice A7 x.f7.length c7) from (blk_cell BK2.out 7).trans rfl); have hc3_7_v0 := (show v0.cell? ⟨b3, 7, none⟩ = some (.slice B7 x.f7.length d7) from (blk_cell BK3.out 7).trans rfl); clear tok0)
    | (go_at_call 43; have t_ := tok1; clear t_; (with_reducible refine (eq43 x.f7 A7 c7 B7 d7 _ (Kd.C_below G7.out HB.out) L7.out (Kd.C_below H7.out HB.out) M7.out).mono ?_); rintro e v1 ⟨rfl, hb⟩; have n0_ := Aside0.mk (below_step HB.out hb); have n1_ := Aside0.mk (blk_below BK2.out hb); have n2_ := Aside0.mk (blk_below BK3.out hb); clear HB BK2 BK3 hb; have HB := n0_; have BK2 := n1_; have BK3 := n2_; clear n0_ n1_ n2_; have hc2_8_v1 := (show v1.cell? ⟨b2, 8, none⟩ = some (.slice A8 x.f8.length c8) from (blk_cell BK2.out 8).trans rfl); have hc3_8_v1 := (show v1.cell? ⟨b3, 8, none⟩ = some (.slice B8 x.f8.length d8) from (blk_cell BK3.out 8).trans rfl); clear tok1)
    | (go_at_call 44; have t_ := tok2; clear t_; (with_reducible refine (eq44 x.f8 A8 c8 B8 d8 _ (Kd.C_below G8.out HB.out) L8.out (Kd.C_below H8.out HB.out) M8.out).mono ?_); rintro e v2 ⟨rfl, hb⟩; have n0_ := Aside0.mk (below_step HB.out hb); have n1_ := Aside0.mk (blk_below BK2.out hb); have n2_ := Aside0.mk (blk_below BK3.out hb); clear HB BK2 BK3 hb; have HB := n0_; have BK2 := n1_; have BK3 := n2_; clear n0_ n1_ n2_; have hc2_9_v2 := (show v2.cell? ⟨b2, 9, none⟩ = some (.slice A9 x.f9.length c9) from (blk_cell BK2.out 9).trans rfl); have hc3_9_v2 := (show v2.cell? ⟨b3, 9, none⟩ = some (.slice B9 x.f9.length d9) from (blk_cell BK3.out 9).trans rfl); clear tok2)
    | (go_at_call 45; have t_ := tok3; clear t_; (with_reducible refine (eq45 x.f9 A9 c9 B9 d9 _ (Kd.C_below G9.out HB.out) L9.out (Kd.C_below H9.out HB.out) M9.out).mono ?_); rintro e v3 ⟨rfl, hb⟩; have n0_ := Aside0.mk (below_step HB.out hb); have n1_ := Aside0.mk (blk_below BK2.out hb); have n2_ := Aside0.mk (blk_below BK3.out hb); clear HB BK2 BK3 hb; have HB := n0_; have BK2 := n1_; have BK3 := n2_; clear n0_ n1_ n2_; have hc2_10_v3 := (show v3.cell? ⟨b2, 10, none⟩ = some (.slice A10 x.f10.length c10) from (blk_cell BK2.out 10).trans rfl); have hc3_10_v3 := (show v3.cell? ⟨b3, 10, none⟩ = some (.slice B10 x.f10.length d10) from (blk_cell BK3.out 10).trans rfl); clear tok3)
    | (go_at_call 43; have t_ := tok4; clear t_; (with_reducible refine (eq43 x.f10 A10 c10 B10 d10 _ (Kd.C_below G10.out HB.out) L10.out (Kd.C_below H10.out HB.out) M10.out).mono ?_); rintro e v4 ⟨rfl, hb⟩; have n0_ := Aside0.mk (below_step HB.out hb); have n1_ := Aside0.mk (blk_below BK2.out hb); have n2_ := Aside0.mk (blk_below BK3.out hb); clear HB BK2 BK3 hb; have HB := n0_; have BK2 := n1_; have BK3 := n2_; clear n0_ n1_ n2_; clear tok4))
  go_ret
  exact ⟨rfl, HB.out⟩
set_option maxHeartbeats 4000000 in
set_option maxRecDepth 100000 in
theorem eq15 (l : List S39) (A0 : Option Addr) (c0 : Nat) (B0 : Option Addr) (d0 : Nat) (w : World) (hr : Kd.C k39 w A0 l.length l) (hc : l.length ≤ c0) (hr2 : Kd.C k39 w B0 l.length l) (hc2 : l.length ≤ d0) :
    Calls Try.prog 15 #[.slice A0 l.length c0, .slice B0 l.length d0] w fun e w' => e = .returned (.bool true) ∧ Below w.heap.size w w' := by
  have HM := Aside0.mk (show l.length ≤ 9223372036854775807 from hr.2.1)
  have HR := Aside0.mk hr
  have HR2 := Aside0.mk hr2
  clear hr hr2
  have HB := Aside0.mk (Below.refl w.heap.size w)
  go_enter Try.func15, Try.ntmps15
  go_wp2
  go_loopw [5] (fun v w' => ∃ (n i : Nat), v = .int .i64 (i : Int) ∧ Aside0 (i + n = l.length) ∧ Aside0 (Below w.heap.size w w')) (fun v _ => l.length - (intOf v).toNat)
  case atStart => exact ⟨l.length, 0, rfl, ⟨by omega⟩, HB⟩
  case round =>
    obtain ⟨n, i, rfl, HI, HB⟩ := hrel
    cases n with
    | zero =>
      have hlt : decide ((i : Int) < (l.length : Int)) = false := decide_eq_false (by have := HI.out; omega)
      have hlt2 : decide (i < l.length) = false := decide_eq_false (by have := HI.out; omega)
      go_wp2
      go_ret
      exact ⟨rfl, HB.out⟩
    | succ n =>
      have hlt : decide ((i : Int) < (l.length : Int)) = true := decide_eq_true (by have := HI.out; omega)
      have hlt2 : decide (i < l.length) = true := decide_eq_true (by have := HI.out; omega)
      have q0 : (0 : Int) ≤ (i : Int) := by omega
      have q1 : (i : Int) < (l.length : Int) := by have := HI.out; omega
      have q2 : (i < l.length) = True := eq_true (by have := HI.out; omega)
      have HW := Aside0.mk (show wrap64 ((i : Int) + 1) = ((i + 1 : Nat) : Int) by have := HI.out; have := HM.out; unfold wrap64; omega)
      have HL := Aside0.mk (show i < l.length by have := HI.out; omega)
      obtain ⟨ad, A6, c6, A7, c7, A8, c8, A9, c9, A10, c10, ea, hx0, hx1, hx2, hx3, hx4, hx5, hx6, hx7, hx8, hx9, hx10, l6, g6, l7, g7, l8, g8, l9, g9, l10, g10⟩ := at_T39 (Kd.C_below HR.out HB.out) (i : Int) q0 q1
      obtain ⟨bd, B6, d6, B7, d7, B8, d8, B9, d9, B10, d10, eb, hy0, hy1, hy2, hy3, hy4, hy5, hy6, hy7, hy8, hy9, hy10, m6, h6, m7, h7, m8, h8, m9, h9, m10, h10⟩ := at_T39 (Kd.C_below HR2.out HB.out) (i : Int) q0 q1
      subst ea eb
      simp only [Int.toNat_natCast] at hx0 hx1 hx2 hx3 hx4 hx5 hx6 hx7 hx8 hx9 hx10 hy0 hy1 hy2 hy3 hy4 hy5 hy6 hy7 hy8 hy9 hy10
      obtain ⟨x, hX⟩ : ∃ x, rd_T39 l (i : Int) = x := ⟨_, rfl⟩
      rw [hX] at hx0 hx1 hx2 hx3 hx4 hx5 hx6 hx7 hx8 hx9 hx10 hy0 hy1 hy2 hy3 hy4 hy5 hy6 hy7 hy8 hy9 hy10
      simp only [hX] at g6 l6 h6 m6 g7 l7 h7 m7 g8 l8 h8 m8 g9 l9 h9 m9 g10 l10 h10 m10
      have G6 := Aside0.mk g6
      have L6 := Aside0.mk l6
      have H6 := Aside0.mk h6
      have M6 := Aside0.mk m6
      have G7 := Aside0.mk g7
      have L7 := Aside0.mk l7
      have H7 := Aside0.mk h7
      have M7 := Aside0.mk m7
      have G8 := Aside0.mk g8
      have L8 := Aside0.mk l8
      have H8 := Aside0.mk h8
      have M8 := Aside0.mk m8
      have G9 := Aside0.mk g9
      have L9 := Aside0.mk l9
      have H9 := Aside0.mk h9
      have M9 := Aside0.mk m9
      have G10 := Aside0.mk g10
      have L10 := Aside0.mk l10
      have H10 := Aside0.mk h10
      have M10 := Aside0.mk m10
      clear hX g6 l6 h6 m6 g7 l7 h7 m7 g8 l8 h8 m8 g9 l9 h9 m9 g10 l10 h10 m10
      replace q0 := eq_true q0
      replace q1 := eq_true q1
      go_wp2
      go_region_held3 (fun w' => w'.cell? (ad.add (i * 11)) = some (.int .i64 x.f0) ∧ w'.cell? ⟨(ad.add (i * 11)).block, (ad.add (i * 11)).off + 1, none⟩ = some (.int .i64 x.f1) ∧ w'.cell? ⟨(ad.add (i * 11)).block, (ad.add (i * 11)).off + 2, none⟩ = some (.int .i64 x.f2) ∧ w'.cell? ⟨(ad.add (i * 11)).block, (ad.add (i * 11)).off + 3, none⟩ = some (.int .i64 x.f3) ∧ w'.cell? ⟨(ad.add (i * 11)).block, (ad.add (i * 11)).off + 4, none⟩ = some (.int .i64 x.f4) ∧ w'.cell? ⟨(ad.add (i * 11)).block, (ad.add (i * 11)).off + 5, none⟩ = some (.int .i64 x.f5) ∧ w'.cell? ⟨(ad.add (i * 11)).block, (ad.add (i * 11)).off + 6, none⟩ = some (.slice A6 x.f6.length c6) ∧ w'.cell? ⟨(ad.add (i * 11)).block, (ad.add (i * 11)).off + 7, none⟩ = some (.slice A7 x.f7.length c7) ∧ w'.cell? ⟨(ad.add (i * 11)).block, (ad.add (i * 11)).off + 8, none⟩ = some (.slice A8 x.f8.length c8) ∧ w'.cell? ⟨(ad.add (i * 11)).block, (ad.add (i * 11)).off + 9, none⟩ = some (.slice A9 x.f9.length c9) ∧ w'.cell? ⟨(ad.add (i * 11)).block, (ad.add (i * 11)).off + 10, none⟩ = some (.slice A10 x.f10.length c10) ∧ w'.cell? (bd.add (i * 11)) = some (.int .i64 x.f0) ∧ w'.cell? ⟨(bd.add (i * 11)).block, (bd.add (i * 11)).off + 1, none⟩ = some (.int .i64 x.f1) ∧ w'.cell? ⟨(bd.add (i * 11)).block, (bd.add (i * 11)).off + 2, none⟩ = some (.int .i64 x.f2) ∧ w'.cell? ⟨(bd.add (i * 11)).block, (bd.add (i * 11)).off + 3, none⟩ = some (.int .i64 x.f3) ∧ w'.cell? ⟨(bd.add (i * 11)).block, (bd.add (i * 11)).off + 4, none⟩ = some (.int .i64 x.f4) ∧ w'.cell? ⟨(bd.add (i * 11)).block, (bd.add (i * 11)).off + 5, none⟩ = some (.int .i64 x.f5) ∧ w'.cell? ⟨(bd.add (i * 11)).block, (bd.add (i * 11)).off + 6, none⟩ = some (.slice B6 x.f6.length d6) ∧ w'.cell? ⟨(bd.add (i * 11)).block, (bd.add (i * 11)).off + 7, none⟩ = some (.slice B7 x.f7.length d7) ∧ w'.cell? ⟨(bd.add (i * 11)).block, (bd.add (i * 11)).off + 8, none⟩ = some (.slice B8 x.f8.length d8) ∧ w'.cell? ⟨(bd.add (i * 11)).block, (bd.add (i * 11)).off + 9, none⟩ = some (.slice B9 x.f9.length d9) ∧ w'.cell? ⟨(bd.add (i * 11)).block, (bd.add (i * 11)).off + 10, none⟩ = some (.slice B10 x.f10.length d10)) (first | ((repeat' apply And.intro) <;> (first | assumption | (apply pw_cell_below HK.out; assumption))) | go_keep) (first | (go_at_call 24; (with_reducible refine (eq24 x A6 c6 B6 d6 A7 c7 B7 d7 A8 c8 B8 d8 A9 c9 B9 d9 A10 c10 B10 d10 _ (Kd.C_drew G6.out) L6.out (Kd.C_drew H6.out) M6.out (Kd.C_drew G7.out) L7.out (Kd.C_drew H7.out) M7.out (Kd.C_drew G8.out) L8.out (Kd.C_drew H8.out) M8.out (Kd.C_drew G9.out) L9.out (Kd.C_drew H9.out) M9.out (Kd.C_drew G10.out) L10.out (Kd.C_drew H10.out) M10.out).mono ?_); rintro e w9 ⟨rfl, hb⟩; have HK := Aside0.mk (below_step (below_drew1 (Below.refl wr.heap.size wr)) hb); have n0_ := Aside0.mk (below_step HB.out HK.out); clear HB hb; have HB := n0_; clear n0_))
      all_goals go_wp2
      all_goals
        go_roundw
        case rel => exact ⟨n, i + 1, congrArg (Value.int .i64) HW.out, ⟨by have := HI.out; omega⟩, ⟨HB.out⟩⟩
        case measure => rw [HW.out]; have := HL.out; show l.length - ((i + 1 : Nat) : Int).toNat < l.length - ((i : Nat) : Int).toNat; omega
set_option maxHeartbeats 4000000 in
set_option maxRecDepth 100000 in
theorem eq8 (x : S29) (A0 : Option Addr) (c0 : Nat) (B0 : Option Addr) (d0 : Nat) (w : World) (g0 : Kd.C k39 w A0 x.f0.length x.f0) (l0 : x.f0.length ≤ c0) (h0 : Kd.C k39 w B0 x.f0.length x.f0) (m0 : x.f0.length ≤ d0) :
    Calls Try.prog 8 #[.agg #[.slice A0 x.f0.length c0], .agg #[.slice B0 x.f0.length d0]] w fun e w' => e = .returned (.bool true) ∧ Below w.heap.size w w' := by
  have hu := Try.underlying29
  have G0 := Aside0.mk g0
  have L0 := Aside0.mk l0
  have H0 := Aside0.mk h0
  have M0 := Aside0.mk m0
  clear g0 l0 h0 m0
  have HB := Aside0.mk (Below.refl w.heap.size w)
  go_enter Try.func8, Try.ntmps8
  have tok0 : True := trivial
  go_wp2_with (first
    | ((with_reducible refine gate_dst (N := 2) rfl ?_); refine box_event ?hg (N := 2) ?hd (cs := #[.slice A0 x.f0.length c0]) (t := 29) ?hr ?_; (case hd => rfl); (case hg => rfl); (case hr => first | (go_simp; done) | (go_simp; rfl)); intro b2 hg w2 hbox hb; have n0_ := Aside0.mk (below_step HB.out hb); clear HB; have HB := n0_; clear n0_; have BK2 := Aside0.mk hbox; clear hbox hg hb)
    | ((with_reducible refine gate_dst (N := 3) rfl ?_); refine box_event ?hg (N := 3) ?hd (cs := #[.slice B0 x.f0.length d0]) (t := 29) ?hr ?_; (case hd => rfl); (case hg => rfl); (case hr => first | (go_simp; done) | (go_simp; rfl)); intro b3 hg w3 hbox hb; have n1_ := Aside0.mk (blk_below BK2.out hb); clear BK2; have BK2 := n1_; clear n1_; have n0_ := Aside0.mk (below_step HB.out hb); clear HB; have HB := n0_; clear n0_; have BK3 := Aside0.mk hbox; clear hbox hg hb; have hc2_0_w3 := (show w3.cell? ⟨b2, 0, none⟩ = some (.slice A0 x.f0.length c0) from (blk_cell BK2.out 0).trans rfl); have hc3_0_w3 := (show w3.cell? ⟨b3, 0, none⟩ = some (.slice B0 x.f0.length d0) from (blk_cell BK3.out 0).trans rfl))
    | (go_at_call 15; have t_ := tok0; clear t_; (with_reducible refine (eq15 x.f0 A0 c0 B0 d0 _ (Kd.C_below G0.out HB.out) L0.out (Kd.C_below H0.out HB.out) M0.out).mono ?_); rintro e v0 ⟨rfl, hb⟩; have n0_ := Aside0.mk (below_step HB.out hb); have n1_ := Aside0.mk (blk_below BK2.out hb); have n2_ := Aside0.mk (blk_below BK3.out hb); clear HB BK2 BK3 hb; have HB := n0_; have BK2 := n1_; have BK3 := n2_; clear n0_ n1_ n2_; clear tok0))
  go_ret
  exact ⟨rfl, HB.out⟩
end Go.Proofs.Ytphlfmgllbpbhaa.QFnExactSafePlan
