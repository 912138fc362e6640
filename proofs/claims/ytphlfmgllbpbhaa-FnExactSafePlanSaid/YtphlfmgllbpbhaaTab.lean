/- Proved: what impl.textable and spec.l07Stands answer: both tableB. Conditions: the list of nodes is read; none of its lists is longer than a million. -/
import Derived.Test.YtphlfmgllbpbhaaISh
namespace Go.Proofs.Ytphlfmgllbpbhaa.QFnExactSafePlan
open Go.RowKit Go.Proofs.YtphlfmgllbpbhaaW.PrintWords Go.Proofs.YtphlfmgllbpbhaaW.PrintLast Go.Proofs.YtphlfmgllbpbhaaW.PrintMore
set_option linter.unusedVariables false
set_option linter.unusedSimpArgs false
def toldX (x : S49) : Bool := toldB x.f0 x.f2 x.f5.length
/-- May all nodes' texts be told? -/
def allTold (l : List S49) : Bool := l.all toldX
/-- May the expression's text be told? -/
def tableB (l : List S49) : Bool := decide (1 ≤ l.length) && decide (l.length ≤ 400) && okShape l && allTold l
theorem all_yes {l : List S49} (h : ∀ j, j < l.length → toldX (l.getD j z49) = true) : allTold l = true := by
  unfold allTold
  rw [List.all_eq_true]
  intro x hx
  obtain ⟨j, hj, rfl⟩ := List.getElem_of_mem hx
  have := h j hj
  simpa [List.getD, hj] using this
theorem all_no {l : List S49} {j : Nat} (hj : j < l.length) (h : toldX (l.getD j z49) = false) : allTold l = false := by
  cases hq : allTold l with
  | false => rfl
  | true =>
    unfold allTold at hq
    rw [List.all_eq_true] at hq
    have := hq (l.getD j z49) (by simp [List.getD, hj])
    rw [h] at this
    cases this
theorem shape_pos {l : List S49} (h : ¬ 1 ≤ l.length) : tableB l = false := by simp [tableB, h]
theorem tab_long {l : List S49} (h : ¬ l.length ≤ 400) : tableB l = false := by simp [tableB, h]
theorem tab_shape {l : List S49} (h : okShape l = false) : tableB l = false := by simp [tableB, h]
theorem tab_all {l : List S49} (h2 : l.length ≤ 400) (h : okShape l = true) : tableB l = allTold l := by
  have h1 : 1 ≤ l.length := by
    cases l with
    | nil => exact absurd h (by decide)
    | cons x xs => simp
  simp [tableB, h1, h2, h]
set_option maxHeartbeats 8000000 in
set_option maxRecDepth 100000 in
theorem clos22 (x : S49) (A7 : Option Addr) (c7 : Nat) (w : World) (hn : x.f5.length ≤ 1048576) :
    Calls Try.prog 22 #[.agg #[.int .i64 x.f0, .int .i64 x.f1, .int .i64 x.f2, .int .i64 x.f3, .int .i64 x.f4.f0, .int .i64 x.f4.f1, .string x.f4.f2, .slice A7 x.f5.length c7]] w fun e w' => e = .returned (.bool (!toldX x)) ∧ Below w.heap.size w w' := by
  have hu := Try.underlying49
  have HN := Aside0.mk hn
  clear hn
  have HB := Aside0.mk (Below.refl w.heap.size w)
  go_enter Try.func22, Try.ntmps22
  have tok0 : True := trivial
  go_wp2_with (first
    | ((with_reducible refine gate_dst (N := 1) rfl ?_); refine box_event ?hg (N := 1) ?hd (cs := #[.int .i64 x.f0, .int .i64 x.f1, .int .i64 x.f2, .int .i64 x.f3, .int .i64 x.f4.f0, .int .i64 x.f4.f1, .string x.f4.f2, .slice A7 x.f5.length c7]) (t := 49) ?hr ?_; (case hd => rfl); (case hg => rfl); (case hr => first | (go_simp; done) | (go_simp; rfl)); intro b1 hg w1 hbox hb; have n0_ := Aside0.mk (below_step HB.out hb); clear HB; have HB := n0_; clear n0_; have BK1 := Aside0.mk hbox; clear hbox hg hb; have hc1_0 := (show w1.cell? ⟨b1, 0, none⟩ = some (.int .i64 x.f0) from (blk_cell BK1.out 0).trans rfl); have hc1_1 := (show w1.cell? ⟨b1, 1, none⟩ = some (.int .i64 x.f1) from (blk_cell BK1.out 1).trans rfl); have hc1_2 := (show w1.cell? ⟨b1, 2, none⟩ = some (.int .i64 x.f2) from (blk_cell BK1.out 2).trans rfl); have hc1_3 := (show w1.cell? ⟨b1, 3, none⟩ = some (.int .i64 x.f3) from (blk_cell BK1.out 3).trans rfl); have hc1_4 := (show w1.cell? ⟨b1, 4, none⟩ = some (.int .i64 x.f4.f0) from (blk_cell BK1.out 4).trans rfl); have hc1_5 := (show w1.cell? ⟨b1, 5, none⟩ = some (.int .i64 x.f4.f1) from (blk_cell BK1.out 5).trans rfl); have hc1_6 := (show w1.cell? ⟨b1, 6, none⟩ = some (.string x.f4.f2) from (blk_cell BK1.out 6).trans rfl); have hc1_7 := (show w1.cell? ⟨b1, 7, none⟩ = some (.slice A7 x.f5.length c7) from (blk_cell BK1.out 7).trans rfl))
    | (go_at_call 23; have t_ := tok0; clear t_; (with_reducible refine (told23 x.f0 x.f1 x.f2 x.f3 x.f4.f0 x.f4.f1 x.f4.f2 A7 x.f5.length c7 _ (by have := HN.out; omega)).mono ?_); rintro e v0 ⟨rfl, hb⟩; have n0_ := Aside0.mk (below_step HB.out hb); clear HB hb; have HB := n0_; clear n0_; clear tok0))
  go_ret
  exact ⟨rfl, HB.out⟩
set_option maxHeartbeats 8000000 in
set_option maxRecDepth 100000 in
theorem index38 (l : List S49) (A0 : Option Addr) (c0 : Nat) (w : World) (hr : Kd.C k49 w A0 l.length l) (hs : ∀ j, (l.getD j z49).f5.length ≤ 1048576) :
    Calls Try.prog 38 #[.slice A0 l.length c0, .func (.func 22) #[] #[]] w fun e w' => ∃ r : Int, e = .returned (.int .i64 r) ∧ decide (0 ≤ r) = !allTold l ∧ Below w.heap.size w w' := by
  have hu := Try.underlying49
  have HM := Aside0.mk (show l.length ≤ 9223372036854775807 from hr.2.1)
  have HR := Aside0.mk hr
  have HSS := Aside0.mk hs
  clear hr hs
  have HB := Aside0.mk (Below.refl w.heap.size w)
  go_enter Try.func38, Try.ntmps38
  go_wp2
  go_loopw [8] (fun v w' => ∃ (n i : Nat), v = .int .i64 (i : Int) ∧ Aside0 (i + n = l.length) ∧ Aside0 (∀ j, j < i → toldX (l.getD j z49) = true) ∧ Aside0 (Below w.heap.size w w')) (fun v _ => l.length - (intOf v).toNat)
  case atStart => exact ⟨l.length, 0, rfl, ⟨by omega⟩, ⟨fun j hj => absurd hj (Nat.not_lt_zero _)⟩, HB⟩
  case round =>
    obtain ⟨n, i, rfl, HI, HSM, HB⟩ := hrel
    cases n with
    | zero =>
      have hlt : decide ((i : Int) < (l.length : Int)) = false := decide_eq_false (by have := HI.out; omega)
      have hlt2 : decide (i < l.length) = false := decide_eq_false (by have := HI.out; omega)
      have HA := Aside0.mk (all_yes (l := l) (fun j hj => HSM.out j (by have := HI.out; omega)))
      go_wp2
      go_ret
      exact ⟨-1, rfl, by rw [HA.out]; rfl, HB.out⟩
    | succ n =>
      have hlt : decide ((i : Int) < (l.length : Int)) = true := decide_eq_true (by have := HI.out; omega)
      have hlt2 : decide (i < l.length) = true := decide_eq_true (by have := HI.out; omega)
      have q0 : (0 : Int) ≤ (i : Int) := by omega
      have q1 : (i : Int) < (l.length : Int) := by have := HI.out; omega
      have q2 : (i < l.length) = True := eq_true (by have := HI.out; omega)
      have HW := Aside0.mk (show wrap64 ((i : Int) + 1) = ((i + 1 : Nat) : Int) by have := HI.out; have := HM.out; unfold wrap64; omega)
      have HL := Aside0.mk (show i < l.length by have := HI.out; omega)
      obtain ⟨ad, A7, c7, ea, hx0, hx1, hx2, hx3, hx4, hx5, hx6, hx7, l7, g7⟩ := at_T49 (Kd.C_below HR.out HB.out) (i : Int) q0 q1
      subst ea
      simp only [Int.toNat_natCast] at hx0 hx1 hx2 hx3 hx4 hx5 hx6 hx7
      obtain ⟨x, hX⟩ : ∃ x, rd_T49 l (i : Int) = x := ⟨_, rfl⟩
      rw [hX] at hx0 hx1 hx2 hx3 hx4 hx5 hx6 hx7
      simp only [hX] at g7 l7
      have G7 := Aside0.mk g7
      have HXX := Aside0.mk (show l.getD i z49 = x from hX)
      have HXL := Aside0.mk (show x.f5.length ≤ 1048576 by rw [← HXX.out]; exact HSS.out i)
      clear hX g7 l7
      replace q0 := eq_true q0
      replace q1 := eq_true q1
      cases ht : toldX x with
      | true =>
        have HT := Aside0.mk ht
        clear ht
        go_wp2_with (first
          | (go_at_call 22; (with_reducible refine (clos22 x A7 c7 _ HXL.out).mono ?_); rintro e v0 ⟨rfl, hb⟩; have n0_ := Aside0.mk (below_step HB.out hb); clear HB hb; have HB := n0_; clear n0_; rw [HT.out]))
        go_roundw
        case rel => exact ⟨n, i + 1, (by first | exact congrArg (Value.int .i64) HW.out | go_num), ⟨by have := HI.out; omega⟩, ⟨fun j hj => by
               by_cases ej : j = i
               · subst ej; rw [HXX.out]; exact HT.out
               · exact HSM.out j (by omega)⟩, HB⟩
        case measure => rw [HW.out]; have := HL.out; show l.length - ((i + 1 : Nat) : Int).toNat < l.length - ((i : Nat) : Int).toNat; omega
      | false =>
        have HT := Aside0.mk ht
        have HA := Aside0.mk (all_no (l := l) HL.out (by rw [HXX.out]; exact ht))
        clear ht
        go_wp2_with (first
          | (go_at_call 22; (with_reducible refine (clos22 x A7 c7 _ HXL.out).mono ?_); rintro e v0 ⟨rfl, hb⟩; have n0_ := Aside0.mk (below_step HB.out hb); clear HB hb; have HB := n0_; clear n0_; rw [HT.out]))
        go_ret
        exact ⟨(i : Int), rfl, by rw [HA.out]; exact decide_eq_true (by omega), HB.out⟩
set_option maxHeartbeats 8000000 in
set_option maxRecDepth 100000 in
theorem contains21 (l : List S49) (A0 : Option Addr) (c0 : Nat) (w : World) (hr : Kd.C k49 w A0 l.length l) (hs : ∀ j, (l.getD j z49).f5.length ≤ 1048576) :
    Calls Try.prog 21 #[.slice A0 l.length c0, .func (.func 22) #[] #[]] w fun e w' => e = .returned (.bool (!allTold l)) ∧ Below w.heap.size w w' := by
  have HR := Aside0.mk hr
  have HSS := Aside0.mk hs
  clear hr hs
  have HB := Aside0.mk (Below.refl w.heap.size w)
  go_enter Try.func21, Try.ntmps21
  have tok0 : True := trivial
  go_wp2_with (first | (go_at_call 38; have t_ := tok0; clear t_; (with_reducible refine (index38 l A0 c0 _ (Kd.C_below HR.out HB.out) HSS.out).mono ?_); rintro e v0 ⟨r, rfl, hr, hb⟩; have HQ := Aside0.mk hr; have n0_ := Aside0.mk (below_step HB.out hb); clear HB hb hr; have HB := n0_; clear n0_; clear tok0))
  go_ret
  exact ⟨by rw [← HQ.out]; try rfl, HB.out⟩
set_option maxHeartbeats 8000000 in
set_option maxRecDepth 100000 in
theorem exprShape20 (l : List S49) (A0 : Option Addr) (c0 : Nat) (w : World) (hr : Kd.C k49 w A0 l.length l) (hl : l.length ≤ 1048576) (hs : ∀ j, (l.getD j z49).f5.length ≤ 1048576) :
    Calls Try.prog 20 #[.agg #[.slice A0 l.length c0]] w fun e w' => ∃ v : Value, e = .returned (.tuple #[v, .bool (okShape l)]) ∧ Below w.heap.size w w' := by
  have hu := Try.underlying49
  have hv := Try.underlying44
  have HR := Aside0.mk hr
  have HLL := Aside0.mk hl
  have HSS := Aside0.mk hs
  have hl0 : (l.length : Int) ≤ 1048576 := by omega
  clear hr hl hs
  have HB := Aside0.mk (Below.refl w.heap.size w)
  go_enter Try.func20, Try.ntmps20
  have tok0 : True := trivial
  go_wp2_with (first
    | ((with_reducible refine gate_dst (N := 1) rfl ?_); refine box_event ?hg (N := 1) ?hd (cs := #[.slice A0 l.length c0]) (t := 44) ?hr ?_; (case hd => rfl); (case hg => rfl); (case hr => first | (go_simp; done) | (go_simp; rfl)); intro b1 hg w1 hbox hb; have n0_ := Aside0.mk (below_step HB.out hb); clear HB; have HB := n0_; clear n0_; have BK1 := Aside0.mk hbox; clear hbox hg hb; have hc1_0 := (show w1.cell? ⟨b1, 0, none⟩ = some (.slice A0 l.length c0) from (blk_cell BK1.out 0).trans rfl))
    | (go_at_call 36; have t_ := tok0; clear t_; (with_reducible refine (shape36 l A0 c0 b1 _ (Kd.C_below HR.out HB.out) BK1.out HLL.out HSS.out).mono ?_); rintro e v0 ⟨r, rfl, hb⟩; have n0_ := Aside0.mk (below_step HB.out hb); clear HB hb; have HB := n0_; clear n0_; clear tok0))
  go_ret2
  exact ⟨_, rfl, HB.out⟩
set_option maxHeartbeats 8000000 in
set_option maxRecDepth 100000 in
theorem textable12 (l : List S49) (A0 : Option Addr) (c0 : Nat) (w : World) (hr : Kd.C k49 w A0 l.length l) (hl : l.length ≤ 1048576) (hs : ∀ j, (l.getD j z49).f5.length ≤ 1048576) :
    Calls Try.prog 12 #[.agg #[.slice A0 l.length c0]] w fun e w' => e = .returned (.bool (tableB l)) ∧ Below w.heap.size w w' := by
  have hu := Try.underlying49
  have hv := Try.underlying44
  have HR := Aside0.mk hr
  have HLL := Aside0.mk hl
  have HSS := Aside0.mk hs
  have hl0 : (l.length : Int) ≤ 1048576 := by omega
  clear hr hl hs
  have HB := Aside0.mk (Below.refl w.heap.size w)
  go_enter Try.func12, Try.ntmps12
  by_cases c1 : 1 ≤ l.length
  · have d1 : decide ((l.length : Int) < 1) = false := decide_eq_false (by omega)
    have d2 : decide (l.length < 1) = false := decide_eq_false (by omega)
    by_cases c2 : l.length ≤ 400
    · have d3 : decide ((l.length : Int) > 400) = false := decide_eq_false (by omega)
      have d4 : decide ((400 : Int) < (l.length : Int)) = false := decide_eq_false (by omega)
      have d5 : decide (400 < l.length) = false := decide_eq_false (by omega)
      have C2 := Aside0.mk c2
      clear c1 c2
      cases hsh : okShape l with
      | false =>
        have HSH := Aside0.mk hsh
        have HF := Aside0.mk (tab_shape hsh)
        clear hsh
        have tok0 : True := trivial
        go_wp2_with (first
          | ((with_reducible refine gate_dst (N := 1) rfl ?_); refine box_event ?hg (N := 1) ?hd (cs := #[.slice A0 l.length c0]) (t := 44) ?hr ?_; (case hd => rfl); (case hg => rfl); (case hr => first | (go_simp; done) | (go_simp; rfl)); intro b1 hg w1 hbox hb; have n0_ := Aside0.mk (below_step HB.out hb); clear HB; have HB := n0_; clear n0_; have BK1 := Aside0.mk hbox; clear hbox hg hb; have hc1_0 := (show w1.cell? ⟨b1, 0, none⟩ = some (.slice A0 l.length c0) from (blk_cell BK1.out 0).trans rfl))
          | (go_at_call 20; have t_ := tok0; clear t_; (with_reducible refine (exprShape20 l A0 c0 _ (Kd.C_below HR.out HB.out) HLL.out HSS.out).mono ?_); rintro e v0 ⟨r, rfl, hb⟩; have n0_ := Aside0.mk (below_step HB.out hb); have n1_ := Aside0.mk (blk_below BK1.out hb); clear HB BK1 hb; have HB := n0_; have BK1 := n1_; clear n0_ n1_; clear tok0; have hk1 := (show v0.cell? ⟨b1, 0, none⟩ = some (.slice A0 l.length c0) from (blk_cell BK1.out 0).trans rfl); rw [HSH.out]))
        go_ret
        exact ⟨by rw [HF.out]; rfl, HB.out⟩
      | true =>
        have HSH := Aside0.mk hsh
        have HF := Aside0.mk (tab_all C2.out hsh)
        clear hsh
        have tok0 : True := trivial
        have tok1 : True := trivial
        go_wp2_with (first
          | ((with_reducible refine gate_dst (N := 1) rfl ?_); refine box_event ?hg (N := 1) ?hd (cs := #[.slice A0 l.length c0]) (t := 44) ?hr ?_; (case hd => rfl); (case hg => rfl); (case hr => first | (go_simp; done) | (go_simp; rfl)); intro b1 hg w1 hbox hb; have n0_ := Aside0.mk (below_step HB.out hb); clear HB; have HB := n0_; clear n0_; have BK1 := Aside0.mk hbox; clear hbox hg hb; have hc1_0 := (show w1.cell? ⟨b1, 0, none⟩ = some (.slice A0 l.length c0) from (blk_cell BK1.out 0).trans rfl))
          | (go_at_call 20; have t_ := tok0; clear t_; (with_reducible refine (exprShape20 l A0 c0 _ (Kd.C_below HR.out HB.out) HLL.out HSS.out).mono ?_); rintro e v0 ⟨r, rfl, hb⟩; have n0_ := Aside0.mk (below_step HB.out hb); have n1_ := Aside0.mk (blk_below BK1.out hb); clear HB BK1 hb; have HB := n0_; have BK1 := n1_; clear n0_ n1_; clear tok0; have hk1 := (show v0.cell? ⟨b1, 0, none⟩ = some (.slice A0 l.length c0) from (blk_cell BK1.out 0).trans rfl); rw [HSH.out])
          | (go_at_call 21; have t_ := tok1; clear t_; (with_reducible refine (contains21 l A0 c0 _ (Kd.C_below HR.out HB.out) HSS.out).mono ?_); rintro e v1 ⟨rfl, hb⟩; have n0_ := Aside0.mk (below_step HB.out hb); clear HB hb; have HB := n0_; clear n0_; clear tok1))
        go_ret
        exact ⟨by rw [HF.out]; cases allTold l <;> rfl, HB.out⟩
    · have d3 : decide ((l.length : Int) > 400) = true := decide_eq_true (by omega)
      have d4 : decide ((400 : Int) < (l.length : Int)) = true := decide_eq_true (by omega)
      have d5 : decide (400 < l.length) = true := decide_eq_true (by omega)
      have HF := Aside0.mk (tab_long c2)
      clear c1 c2
      go_wp2_with (first | ((with_reducible refine gate_dst (N := 1) rfl ?_); refine box_event ?hg (N := 1) ?hd (cs := #[.slice A0 l.length c0]) (t := 44) ?hr ?_; (case hd => rfl); (case hg => rfl); (case hr => first | (go_simp; done) | (go_simp; rfl)); intro b1 hg w1 hbox hb; have n0_ := Aside0.mk (below_step HB.out hb); clear HB; have HB := n0_; clear n0_; have BK1 := Aside0.mk hbox; clear hbox hg hb; have hc1_0 := (show w1.cell? ⟨b1, 0, none⟩ = some (.slice A0 l.length c0) from (blk_cell BK1.out 0).trans rfl)))
      go_ret
      exact ⟨by rw [HF.out]; rfl, HB.out⟩
  · have d1 : decide ((l.length : Int) < 1) = true := decide_eq_true (by omega)
    have d2 : decide (l.length < 1) = true := decide_eq_true (by omega)
    have HF := Aside0.mk (shape_pos c1)
    clear c1
    go_wp2_with (first | ((with_reducible refine gate_dst (N := 1) rfl ?_); refine box_event ?hg (N := 1) ?hd (cs := #[.slice A0 l.length c0]) (t := 44) ?hr ?_; (case hd => rfl); (case hg => rfl); (case hr => first | (go_simp; done) | (go_simp; rfl)); intro b1 hg w1 hbox hb; have n0_ := Aside0.mk (below_step HB.out hb); clear HB; have HB := n0_; clear n0_; have BK1 := Aside0.mk hbox; clear hbox hg hb; have hc1_0 := (show w1.cell? ⟨b1, 0, none⟩ = some (.slice A0 l.length c0) from (blk_cell BK1.out 0).trans rfl)))
    go_ret
    exact ⟨by rw [HF.out]; rfl, HB.out⟩
set_option maxHeartbeats 8000000 in
set_option maxRecDepth 100000 in
theorem stands17 (l : List S49) (A0 : Option Addr) (c0 : Nat) (w : World) (hr : Kd.C k49 w A0 l.length l) (hl : l.length ≤ 1048576) (hs : ∀ j, (l.getD j z49).f5.length ≤ 1048576) (hc : l.length ≤ c0) :
    Calls Try.prog 17 #[.agg #[.slice A0 l.length c0]] w fun e w' => e = .returned (.bool (tableB l)) ∧ Below w.heap.size w w' := by
  have HC := Aside0.mk hc
  clear hc
  have hu := Try.underlying49
  have hv := Try.underlying44
  have HR := Aside0.mk hr
  have HLL := Aside0.mk hl
  have HSS := Aside0.mk hs
  have hl0 : (l.length : Int) ≤ 1048576 := by omega
  clear hr hl hs
  have HB := Aside0.mk (Below.refl w.heap.size w)
  have HM := Aside0.mk (show l.length ≤ 9223372036854775807 by omega)
  go_enter Try.func17, Try.ntmps17
  by_cases c2 : l.length ≤ 400
  · have d3 : decide ((l.length : Int) > 400) = false := decide_eq_false (by omega)
    have d4 : decide ((400 : Int) < (l.length : Int)) = false := decide_eq_false (by omega)
    have d5 : decide (400 < l.length) = false := decide_eq_false (by omega)
    have C2 := Aside0.mk c2
    clear c2
    cases hsh : okShape l with
    | false =>
      have HSH := Aside0.mk hsh
      have HF := Aside0.mk (tab_shape hsh)
      clear hsh
      have tok0 : True := trivial
      go_wp2_with (first
        | ((with_reducible refine gate_dst (N := 1) rfl ?_); refine box_event ?hg (N := 1) ?hd (cs := #[.slice A0 l.length c0]) (t := 44) ?hr ?_; (case hd => rfl); (case hg => rfl); (case hr => first | (go_simp; done) | (go_simp; rfl)); intro b1 hg w1 hbox hb; have n0_ := Aside0.mk (below_step HB.out hb); clear HB; have HB := n0_; clear n0_; have BK1 := Aside0.mk hbox; clear hbox hg hb; have hc1_0 := (show w1.cell? ⟨b1, 0, none⟩ = some (.slice A0 l.length c0) from (blk_cell BK1.out 0).trans rfl))
        | (go_at_call 29; have t_ := tok0; clear t_; (with_reducible refine (starts29 l A0 c0 _ (Kd.C_below HR.out HB.out) HC.out HLL.out HSS.out).mono ?_); rintro e v0 ⟨r, rfl, hb⟩; have n0_ := Aside0.mk (below_step HB.out hb); have n1_ := Aside0.mk (blk_below BK1.out hb); clear HB BK1 hb; have HB := n0_; have BK1 := n1_; clear n0_ n1_; clear tok0; have hk1 := (show v0.cell? ⟨b1, 0, none⟩ = some (.slice A0 l.length c0) from (blk_cell BK1.out 0).trans rfl); rw [HSH.out]))
      go_ret
      exact ⟨by rw [HF.out]; rfl, HB.out⟩
    | true =>
      have HSH := Aside0.mk hsh
      have HF := Aside0.mk (tab_all C2.out hsh)
      clear hsh
      have tok0 : True := trivial
      go_wp2_with (first
        | ((with_reducible refine gate_dst (N := 1) rfl ?_); refine box_event ?hg (N := 1) ?hd (cs := #[.slice A0 l.length c0]) (t := 44) ?hr ?_; (case hd => rfl); (case hg => rfl); (case hr => first | (go_simp; done) | (go_simp; rfl)); intro b1 hg w1 hbox hb; have n0_ := Aside0.mk (below_step HB.out hb); clear HB; have HB := n0_; clear n0_; have BK1 := Aside0.mk hbox; clear hbox hg hb; have hc1_0 := (show w1.cell? ⟨b1, 0, none⟩ = some (.slice A0 l.length c0) from (blk_cell BK1.out 0).trans rfl))
        | (go_at_call 29; have t_ := tok0; clear t_; (with_reducible refine (starts29 l A0 c0 _ (Kd.C_below HR.out HB.out) HC.out HLL.out HSS.out).mono ?_); rintro e v0 ⟨r, rfl, hb⟩; have n0_ := Aside0.mk (below_step HB.out hb); have n1_ := Aside0.mk (blk_below BK1.out hb); clear HB BK1 hb; have HB := n0_; have BK1 := n1_; clear n0_ n1_; clear tok0; have hk1 := (show v0.cell? ⟨b1, 0, none⟩ = some (.slice A0 l.length c0) from (blk_cell BK1.out 0).trans rfl); rw [HSH.out]))
      go_loopw [22] (fun v w' => ∃ (n i : Nat), v = .int .i64 (i : Int) ∧ Aside0 (i + n = l.length) ∧ Aside0 (∀ j, j < i → toldX (l.getD j z49) = true) ∧ Aside0 (Below w.heap.size w w')) (fun v _ => l.length - (intOf v).toNat)
      case atStart => exact ⟨l.length, 0, rfl, ⟨by omega⟩, ⟨fun j hj => absurd hj (Nat.not_lt_zero _)⟩, HB⟩
      case round =>
        clear HB BK1 hk1 d3 d4 d5
        obtain ⟨n, i, rfl, HI, HSM, HB⟩ := hrel
        cases n with
        | zero =>
          have hlt : decide ((i : Int) < (l.length : Int)) = false := decide_eq_false (by have := HI.out; omega)
          have hlt2 : decide (i < l.length) = false := decide_eq_false (by have := HI.out; omega)
          have HA := Aside0.mk (all_yes (l := l) (fun j hj => HSM.out j (by have := HI.out; omega)))
          go_wp2
          go_ret
          exact ⟨by rw [HF.out, HA.out]; rfl, HB.out⟩
        | succ n =>
          have hlt : decide ((i : Int) < (l.length : Int)) = true := decide_eq_true (by have := HI.out; omega)
          have hlt2 : decide (i < l.length) = true := decide_eq_true (by have := HI.out; omega)
          have q0 : (0 : Int) ≤ (i : Int) := by omega
          have q1 : (i : Int) < (l.length : Int) := by have := HI.out; omega
          have q2 : (i < l.length) = True := eq_true (by have := HI.out; omega)
          have HW := Aside0.mk (show wrap64 ((i : Int) + 1) = ((i + 1 : Nat) : Int) by have := HI.out; have := HM.out; unfold wrap64; omega)
          have HL := Aside0.mk (show i < l.length by have := HI.out; omega)
          obtain ⟨ad, A7, c7, ea, hx0, hx1, hx2, hx3, hx4, hx5, hx6, hx7, l7, g7⟩ := at_T49 (Kd.C_below HR.out HB.out) (i : Int) q0 q1
          subst ea
          simp only [Int.toNat_natCast] at hx0 hx1 hx2 hx3 hx4 hx5 hx6 hx7
          obtain ⟨x, hX⟩ : ∃ x, rd_T49 l (i : Int) = x := ⟨_, rfl⟩
          rw [hX] at hx0 hx1 hx2 hx3 hx4 hx5 hx6 hx7
          simp only [hX] at g7 l7
          have G7 := Aside0.mk g7
          have HXX := Aside0.mk (show l.getD i z49 = x from hX)
          have HXL := Aside0.mk (show x.f5.length ≤ 1048576 by rw [← HXX.out]; exact HSS.out i)
          clear hX g7 l7
          replace q0 := eq_true q0
          replace q1 := eq_true q1
          cases ht : toldX x with
          | true =>
            have HT := Aside0.mk (show toldB x.f0 x.f2 x.f5.length = true from ht)
            clear ht
            go_wp2_with (first
              | ((with_reducible refine gate_dst (N := 6) rfl ?_); refine box_event ?hg (N := 6) ?hd (cs := #[.int .i64 0, .int .i64 0, .int .i64 0, .int .i64 0, .int .i64 0, .int .i64 0, .string ⟨#[]⟩, .slice none 0 0]) (t := 49) ?hr ?_; (case hd => rfl); (case hg => rfl); (case hr => first | (go_simp; done) | (go_simp; rfl)); intro b6 hg w6 hbox hb; have GE6 := Aside0.mk (show w.heap.size ≤ b6 by rw [hg]; exact below_size HB.out); have n9_ := Aside0.mk (below_step HB.out hb); clear HB; have HB := n9_; clear n9_; have BK := Aside0.mk hbox; clear hbox hg; have hz0 := (show w6.cell? ⟨b6, 0, none⟩ = some (.int .i64 0) from (blk_cell BK.out 0).trans rfl); have hf0 := blk_frozen BK.out 0; have hz1 := (show w6.cell? ⟨b6, 1, none⟩ = some (.int .i64 0) from (blk_cell BK.out 1).trans rfl); have hf1 := blk_frozen BK.out 1; have hz2 := (show w6.cell? ⟨b6, 2, none⟩ = some (.int .i64 0) from (blk_cell BK.out 2).trans rfl); have hf2 := blk_frozen BK.out 2; have hz3 := (show w6.cell? ⟨b6, 3, none⟩ = some (.int .i64 0) from (blk_cell BK.out 3).trans rfl); have hf3 := blk_frozen BK.out 3; have hz4 := (show w6.cell? ⟨b6, 4, none⟩ = some (.int .i64 0) from (blk_cell BK.out 4).trans rfl); have hf4 := blk_frozen BK.out 4; have hz5 := (show w6.cell? ⟨b6, 5, none⟩ = some (.int .i64 0) from (blk_cell BK.out 5).trans rfl); have hf5 := blk_frozen BK.out 5; have hz6 := (show w6.cell? ⟨b6, 6, none⟩ = some (.string ⟨#[]⟩) from (blk_cell BK.out 6).trans rfl); have hf6 := blk_frozen BK.out 6; have hz7 := (show w6.cell? ⟨b6, 7, none⟩ = some (.slice none 0 0) from (blk_cell BK.out 7).trans rfl); have hf7 := blk_frozen BK.out 7; clear hb)
              | ((with_reducible refine gate_store (t := 49) (p := 6) rfl ?_); refine store_event (t := 49) (p := 6) (v := ?vo_6) (w1 := ((((((((w6.setCell ⟨b6, 0, none⟩ (.int .i64 x.f0)).setCell ⟨b6, 1, none⟩ (.int .i64 x.f1)).setCell ⟨b6, 2, none⟩ (.int .i64 x.f2)).setCell ⟨b6, 3, none⟩ (.int .i64 x.f3)).setCell ⟨b6, 4, none⟩ (.int .i64 x.f4.f0)).setCell ⟨b6, 5, none⟩ (.int .i64 x.f4.f1)).setCell ⟨b6, 6, none⟩ (.string x.f4.f2)).setCell ⟨b6, 7, none⟩ (.slice A7 x.f5.length c7))) ?hg ?ho ?hn ?hr ?_; (case ho => rfl); (case hg => rfl); (case hn => rfl); (case hr => first | (go_simp; done) | (go_simp; rfl)); intro w7 hw; have n0_ : Aside0 (Below w.heap.size w w7) := ⟨by rw [hw]; exact (below_set (below_set (below_set (below_set (below_set (below_set (below_set (below_set HB.out GE6.out) GE6.out) GE6.out) GE6.out) GE6.out) GE6.out) GE6.out) GE6.out)⟩; have n1_ : Aside0 (w7.heap[b6]? = some (.cells #[.int .i64 x.f0, .int .i64 x.f1, .int .i64 x.f2, .int .i64 x.f3, .int .i64 x.f4.f0, .int .i64 x.f4.f1, .string x.f4.f2, .slice A7 x.f5.length c7] 49 (0, 0))) := ⟨by rw [hw]; exact (blk_list (blk_list (blk_list (blk_list (blk_list (blk_list (blk_list (blk_list BK.out 0 _) 1 _) 2 _) 3 _) 4 _) 5 _) 6 _) 7 _)⟩; clear HB BK hw hz0 hf0 hz1 hf1 hz2 hf2 hz3 hf3 hz4 hf4 hz5 hf5 hz6 hf6 hz7 hf7; have HB := n0_; have BK := n1_; clear n0_ n1_; have hk0 := (show w7.cell? ⟨b6, 0, none⟩ = some (.int .i64 x.f0) from (blk_cell BK.out 0).trans rfl); have hk1 := (show w7.cell? ⟨b6, 1, none⟩ = some (.int .i64 x.f1) from (blk_cell BK.out 1).trans rfl); have hk2 := (show w7.cell? ⟨b6, 2, none⟩ = some (.int .i64 x.f2) from (blk_cell BK.out 2).trans rfl); have hk3 := (show w7.cell? ⟨b6, 3, none⟩ = some (.int .i64 x.f3) from (blk_cell BK.out 3).trans rfl); have hk4 := (show w7.cell? ⟨b6, 4, none⟩ = some (.int .i64 x.f4.f0) from (blk_cell BK.out 4).trans rfl); have hk5 := (show w7.cell? ⟨b6, 5, none⟩ = some (.int .i64 x.f4.f1) from (blk_cell BK.out 5).trans rfl); have hk6 := (show w7.cell? ⟨b6, 6, none⟩ = some (.string x.f4.f2) from (blk_cell BK.out 6).trans rfl); have hk7 := (show w7.cell? ⟨b6, 7, none⟩ = some (.slice A7 x.f5.length c7) from (blk_cell BK.out 7).trans rfl))
              | (go_at_call 30; (with_reducible refine (told30 x.f0 x.f1 x.f2 x.f3 x.f4.f0 x.f4.f1 x.f4.f2 A7 x.f5.length c7 _ (by have := HXL.out; omega)).mono ?_); rintro e v0 ⟨rfl, hb⟩; have n0_ := Aside0.mk (below_step HB.out hb); clear HB hb; have HB := n0_; clear n0_; rw [HT.out]))
            go_roundw
            case rel => exact ⟨n, i + 1, (by first | exact congrArg (Value.int .i64) HW.out | go_num), ⟨by have := HI.out; omega⟩, ⟨fun j hj => by
                   by_cases ej : j = i
                   · subst ej; rw [HXX.out]; exact HT.out
                   · exact HSM.out j (by omega)⟩, HB⟩
            case measure => rw [HW.out]; have := HL.out; show l.length - ((i + 1 : Nat) : Int).toNat < l.length - ((i : Nat) : Int).toNat; omega
          | false =>
            have HT := Aside0.mk (show toldB x.f0 x.f2 x.f5.length = false from ht)
            have HA := Aside0.mk (all_no (l := l) HL.out (by rw [HXX.out]; exact ht))
            clear ht
            go_wp2_with (first
              | ((with_reducible refine gate_dst (N := 6) rfl ?_); refine box_event ?hg (N := 6) ?hd (cs := #[.int .i64 0, .int .i64 0, .int .i64 0, .int .i64 0, .int .i64 0, .int .i64 0, .string ⟨#[]⟩, .slice none 0 0]) (t := 49) ?hr ?_; (case hd => rfl); (case hg => rfl); (case hr => first | (go_simp; done) | (go_simp; rfl)); intro b6 hg w6 hbox hb; have GE6 := Aside0.mk (show w.heap.size ≤ b6 by rw [hg]; exact below_size HB.out); have n9_ := Aside0.mk (below_step HB.out hb); clear HB; have HB := n9_; clear n9_; have BK := Aside0.mk hbox; clear hbox hg; have hz0 := (show w6.cell? ⟨b6, 0, none⟩ = some (.int .i64 0) from (blk_cell BK.out 0).trans rfl); have hf0 := blk_frozen BK.out 0; have hz1 := (show w6.cell? ⟨b6, 1, none⟩ = some (.int .i64 0) from (blk_cell BK.out 1).trans rfl); have hf1 := blk_frozen BK.out 1; have hz2 := (show w6.cell? ⟨b6, 2, none⟩ = some (.int .i64 0) from (blk_cell BK.out 2).trans rfl); have hf2 := blk_frozen BK.out 2; have hz3 := (show w6.cell? ⟨b6, 3, none⟩ = some (.int .i64 0) from (blk_cell BK.out 3).trans rfl); have hf3 := blk_frozen BK.out 3; have hz4 := (show w6.cell? ⟨b6, 4, none⟩ = some (.int .i64 0) from (blk_cell BK.out 4).trans rfl); have hf4 := blk_frozen BK.out 4; have hz5 := (show w6.cell? ⟨b6, 5, none⟩ = some (.int .i64 0) from (blk_cell BK.out 5).trans rfl); have hf5 := blk_frozen BK.out 5; have hz6 := (show w6.cell? ⟨b6, 6, none⟩ = some (.string ⟨#[]⟩) from (blk_cell BK.out 6).trans rfl); have hf6 := blk_frozen BK.out 6; have hz7 := (show w6.cell? ⟨b6, 7, none⟩ = some (.slice none 0 0) from (blk_cell BK.out 7).trans rfl); have hf7 := blk_frozen BK.out 7; clear hb)
              | ((with_reducible refine gate_store (t := 49) (p := 6) rfl ?_); refine store_event (t := 49) (p := 6) (v := ?vo_6) (w1 := ((((((((w6.setCell ⟨b6, 0, none⟩ (.int .i64 x.f0)).setCell ⟨b6, 1, none⟩ (.int .i64 x.f1)).setCell ⟨b6, 2, none⟩ (.int .i64 x.f2)).setCell ⟨b6, 3, none⟩ (.int .i64 x.f3)).setCell ⟨b6, 4, none⟩ (.int .i64 x.f4.f0)).setCell ⟨b6, 5, none⟩ (.int .i64 x.f4.f1)).setCell ⟨b6, 6, none⟩ (.string x.f4.f2)).setCell ⟨b6, 7, none⟩ (.slice A7 x.f5.length c7))) ?hg ?ho ?hn ?hr ?_; (case ho => rfl); (case hg => rfl); (case hn => rfl); (case hr => first | (go_simp; done) | (go_simp; rfl)); intro w7 hw; have n0_ : Aside0 (Below w.heap.size w w7) := ⟨by rw [hw]; exact (below_set (below_set (below_set (below_set (below_set (below_set (below_set (below_set HB.out GE6.out) GE6.out) GE6.out) GE6.out) GE6.out) GE6.out) GE6.out) GE6.out)⟩; have n1_ : Aside0 (w7.heap[b6]? = some (.cells #[.int .i64 x.f0, .int .i64 x.f1, .int .i64 x.f2, .int .i64 x.f3, .int .i64 x.f4.f0, .int .i64 x.f4.f1, .string x.f4.f2, .slice A7 x.f5.length c7] 49 (0, 0))) := ⟨by rw [hw]; exact (blk_list (blk_list (blk_list (blk_list (blk_list (blk_list (blk_list (blk_list BK.out 0 _) 1 _) 2 _) 3 _) 4 _) 5 _) 6 _) 7 _)⟩; clear HB BK hw hz0 hf0 hz1 hf1 hz2 hf2 hz3 hf3 hz4 hf4 hz5 hf5 hz6 hf6 hz7 hf7; have HB := n0_; have BK := n1_; clear n0_ n1_; have hk0 := (show w7.cell? ⟨b6, 0, none⟩ = some (.int .i64 x.f0) from (blk_cell BK.out 0).trans rfl); have hk1 := (show w7.cell? ⟨b6, 1, none⟩ = some (.int .i64 x.f1) from (blk_cell BK.out 1).trans rfl); have hk2 := (show w7.cell? ⟨b6, 2, none⟩ = some (.int .i64 x.f2) from (blk_cell BK.out 2).trans rfl); have hk3 := (show w7.cell? ⟨b6, 3, none⟩ = some (.int .i64 x.f3) from (blk_cell BK.out 3).trans rfl); have hk4 := (show w7.cell? ⟨b6, 4, none⟩ = some (.int .i64 x.f4.f0) from (blk_cell BK.out 4).trans rfl); have hk5 := (show w7.cell? ⟨b6, 5, none⟩ = some (.int .i64 x.f4.f1) from (blk_cell BK.out 5).trans rfl); have hk6 := (show w7.cell? ⟨b6, 6, none⟩ = some (.string x.f4.f2) from (blk_cell BK.out 6).trans rfl); have hk7 := (show w7.cell? ⟨b6, 7, none⟩ = some (.slice A7 x.f5.length c7) from (blk_cell BK.out 7).trans rfl))
              | (go_at_call 30; (with_reducible refine (told30 x.f0 x.f1 x.f2 x.f3 x.f4.f0 x.f4.f1 x.f4.f2 A7 x.f5.length c7 _ (by have := HXL.out; omega)).mono ?_); rintro e v0 ⟨rfl, hb⟩; have n0_ := Aside0.mk (below_step HB.out hb); clear HB hb; have HB := n0_; clear n0_; rw [HT.out]))
            go_ret
            exact ⟨by rw [HF.out, HA.out]; rfl, HB.out⟩
  · have d3 : decide ((l.length : Int) > 400) = true := decide_eq_true (by omega)
    have d4 : decide ((400 : Int) < (l.length : Int)) = true := decide_eq_true (by omega)
    have d5 : decide (400 < l.length) = true := decide_eq_true (by omega)
    have HF := Aside0.mk (tab_long c2)
    clear c2
    go_wp2_with (first | ((with_reducible refine gate_dst (N := 1) rfl ?_); refine box_event ?hg (N := 1) ?hd (cs := #[.slice A0 l.length c0]) (t := 44) ?hr ?_; (case hd => rfl); (case hg => rfl); (case hr => first | (go_simp; done) | (go_simp; rfl)); intro b1 hg w1 hbox hb; have n0_ := Aside0.mk (below_step HB.out hb); clear HB; have HB := n0_; clear n0_; have BK1 := Aside0.mk hbox; clear hbox hg hb; have hc1_0 := (show w1.cell? ⟨b1, 0, none⟩ = some (.slice A0 l.length c0) from (blk_cell BK1.out 0).trans rfl)))
    go_ret
    exact ⟨by rw [HF.out]; rfl, HB.out⟩
end Go.Proofs.Ytphlfmgllbpbhaa.QFnExactSafePlan
