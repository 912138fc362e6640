/- Proved: what spec.l07SafeNode answers. Conditions: no list is longer than a million. -/
import Derived.Test.YtphlfmgllbpbhaaSaf
namespace Go.Proofs.Ytphlfmgllbpbhaa.QFnExactSafePlan
open Go.RowKit Go.Proofs.YtphlfmgllbpbhaaW.PrintWords Go.Proofs.YtphlfmgllbpbhaaW.PrintLast Go.Proofs.YtphlfmgllbpbhaaW.PrintMore
set_option linter.unusedVariables false
set_option linter.unusedSimpArgs false
theorem all_of {α : Type} {l : List α} {p : α → Bool} (z : α) (h : ∀ j, j < l.length → p (l.getD j z) = true) : l.all p = true := by
  rw [List.all_eq_true]
  intro x hx
  obtain ⟨j, hj, rfl⟩ := List.getElem_of_mem hx
  have := h j hj
  simpa [List.getD, hj] using this
theorem all_not {α : Type} {l : List α} {p : α → Bool} (z : α) {j : Nat} (hj : j < l.length) (h : p (l.getD j z) = false) : l.all p = false := by
  cases hq : l.all p with
  | false => rfl
  | true =>
    rw [List.all_eq_true] at hq
    have := hq (l.getD j z) (by simp [List.getD, hj])
    rw [h] at this
    cases this
def exprOK (e : S44) : Bool := tableB e.f0 && exprSafe e.f0
def aggOK (a : S53) : Bool := !(a.f0 == 3) && !(a.f0 == 4)
def nodeOK (x : S39) : Bool := x.f6.all exprOK && x.f8.all aggOK
/-- No list of the expression is longer than a million. -/
abbrev smE (e : S44) : Prop := e.f0.length ≤ 1048576 ∧ ∀ q, (e.f0.getD q z49).f5.length ≤ 1048576
abbrev smN (x : S39) : Prop := ∀ j, smE (x.f6.getD j z44)
set_option maxHeartbeats 8000000 in
set_option maxRecDepth 100000 in
theorem safeNode10 (x : S39) (A6 A7 A8 A9 A10 : Option Addr) (c6 c7 c8 c9 c10 : Nat) (w : World) (g6 : Kd.C k44 w A6 x.f6.length x.f6) (g8 : Kd.C k53 w A8 x.f8.length x.f8) (hs : smN x) :
    Calls Try.prog 10 #[.agg #[.int .i64 x.f0, .int .i64 x.f1, .int .i64 x.f2, .int .i64 x.f3, .int .i64 x.f4, .int .i64 x.f5, .slice A6 x.f6.length c6, .slice A7 x.f7.length c7, .slice A8 x.f8.length c8, .slice A9 x.f9.length c9, .slice A10 x.f10.length c10]] w fun e w' => e = .returned (.bool (nodeOK x)) ∧ Below w.heap.size w w' := by
  have hu := Try.underlying39
  have hv := Try.underlying44
  have hv2 := Try.underlying53
  have G6 := Aside0.mk g6
  have G8 := Aside0.mk g8
  have HM := Aside0.mk (show x.f6.length ≤ 9223372036854775807 ∧ x.f8.length ≤ 9223372036854775807 from ⟨g6.2.1, g8.2.1⟩)
  have HSS := Aside0.mk hs
  clear g6 g8 hs
  have HB := Aside0.mk (Below.refl w.heap.size w)
  go_enter Try.func10, Try.ntmps10
  go_wp2_with (first | ((with_reducible refine gate_dst (N := 1) rfl ?_); refine box_event ?hg (N := 1) ?hd (cs := #[.int .i64 x.f0, .int .i64 x.f1, .int .i64 x.f2, .int .i64 x.f3, .int .i64 x.f4, .int .i64 x.f5, .slice A6 x.f6.length c6, .slice A7 x.f7.length c7, .slice A8 x.f8.length c8, .slice A9 x.f9.length c9, .slice A10 x.f10.length c10]) (t := 39) ?hr ?_; (case hd => rfl); (case hg => rfl); (case hr => first | (go_simp; done) | (go_simp; rfl)); intro b1 hg w1 hbox hb; have n0_ := Aside0.mk (below_step HB.out hb); clear HB; have HB := n0_; clear n0_; have BK1 := Aside0.mk hbox; clear hbox hg hb; have hk6 := (show w1.cell? ⟨b1, 6, none⟩ = some (.slice A6 x.f6.length c6) from (blk_cell BK1.out 6).trans rfl)))
  go_loopw [10] (fun v w' => ∃ (n i : Nat), v = .int .i64 (i : Int) ∧ Aside0 (i + n = x.f6.length) ∧ Aside0 (∀ j, j < i → exprOK (x.f6.getD j z44) = true) ∧ Aside0 (w'.heap[b1]? = some (.cells #[.int .i64 x.f0, .int .i64 x.f1, .int .i64 x.f2, .int .i64 x.f3, .int .i64 x.f4, .int .i64 x.f5, .slice A6 x.f6.length c6, .slice A7 x.f7.length c7, .slice A8 x.f8.length c8, .slice A9 x.f9.length c9, .slice A10 x.f10.length c10] 39 (0, 0))) ∧ Aside0 (Below w.heap.size w w')) (fun v _ => x.f6.length - (intOf v).toNat)
  case atStart => exact ⟨x.f6.length, 0, rfl, ⟨by omega⟩, ⟨fun j hj => absurd hj (Nat.not_lt_zero _)⟩, BK1, HB⟩
  case round =>
    clear HB BK1 hk6
    obtain ⟨n, i, rfl, HI, HSM, BK1, HB⟩ := hrel
    cases n with
    | zero =>
      have hlt : decide ((i : Int) < (x.f6.length : Int)) = false := decide_eq_false (by have := HI.out; omega)
      have hlt2 : decide (i < x.f6.length) = false := decide_eq_false (by have := HI.out; omega)
      have HA := Aside0.mk (all_of (l := x.f6) (p := exprOK) z44 (fun j hj => HSM.out j (by have := HI.out; omega)))
      have hk8 := (show wr.cell? ⟨b1, 8, none⟩ = some (.slice A8 x.f8.length c8) from (blk_cell BK1.out 8).trans rfl)
      go_wp2
      clear HI HSM hlt hlt2
      go_loopw [26] (fun v w' => ∃ (n i : Nat), v = .int .i64 (i : Int) ∧ Aside0 (i + n = x.f8.length) ∧ Aside0 (∀ j, j < i → aggOK (x.f8.getD j z53) = true) ∧ Aside0 (Below w.heap.size w w')) (fun v _ => x.f8.length - (intOf v).toNat)
      case atStart => exact ⟨x.f8.length, 0, rfl, ⟨by omega⟩, ⟨fun j hj => absurd hj (Nat.not_lt_zero _)⟩, HB⟩
      case round =>
        clear HB BK1 hk8
        obtain ⟨n, i, rfl, HI, HSM, HB⟩ := hrel
        cases n with
        | zero =>
          have hlt : decide ((i : Int) < (x.f8.length : Int)) = false := decide_eq_false (by have := HI.out; omega)
          have hlt2 : decide (i < x.f8.length) = false := decide_eq_false (by have := HI.out; omega)
          have HF := Aside0.mk (show nodeOK x = true by unfold nodeOK; rw [HA.out, all_of (l := x.f8) (p := aggOK) z53 (fun j hj => HSM.out j (by have := HI.out; omega))]; rfl)
          go_wp2
          (go_ret; exact ⟨by rw [HF.out]; rfl, by repeat (first | (with_reducible first | exact HB.out | apply below_alloc | apply pw_below_drewN | apply below_drew1) | exact HB.out)⟩)
        | succ n =>
          have hlt : decide ((i : Int) < (x.f8.length : Int)) = true := decide_eq_true (by have := HI.out; omega)
          have hlt2 : decide (i < x.f8.length) = true := decide_eq_true (by have := HI.out; omega)
          have q0 : (0 : Int) ≤ (i : Int) := by omega
          have q1 : (i : Int) < (x.f8.length : Int) := by have := HI.out; omega
          have q2 : (i < x.f8.length) = True := eq_true (by have := HI.out; omega)
          have HW := Aside0.mk (show wrap64 ((i : Int) + 1) = ((i + 1 : Nat) : Int) by have := HI.out; have := HM.out; unfold wrap64; omega)
          have HL := Aside0.mk (show i < x.f8.length by have := HI.out; omega)
          obtain ⟨ad, ea, hx0, hx1, hx2⟩ := at_T53 G8.out (i : Int) q0 q1
          subst ea
          replace hx0 := (HB.out.cell (World.block_lt_of_cell? w _ hx0)).trans hx0
          replace hx1 := (HB.out.cell (World.block_lt_of_cell? w _ hx1)).trans hx1
          replace hx2 := (HB.out.cell (World.block_lt_of_cell? w _ hx2)).trans hx2
          simp only [Int.toNat_natCast] at hx0 hx1 hx2
          obtain ⟨a, hX⟩ : ∃ a, rd_T53 x.f8 (i : Int) = a := ⟨_, rfl⟩
          rw [hX] at hx0 hx1 hx2
          have HXX := Aside0.mk (show x.f8.getD i z53 = a from hX)
          clear hX
          replace q0 := eq_true q0
          replace q1 := eq_true q1
          by_cases o3 : a.f0 = 3
          · have d1 : (a.f0 == 3) = true := by simp [o3]
            have HF := Aside0.mk (show nodeOK x = false by unfold nodeOK; rw [all_not (l := x.f8) (p := aggOK) z53 HL.out (by rw [HXX.out]; simp [aggOK, o3]), Bool.and_false])
            clear o3
            go_wp2_with (first | ((with_reducible refine gate_dst (N := 6) rfl ?_); refine box_event ?hg (N := 6) ?hd (cs := #[.int .i64 0, .int .i64 0, .bool false]) (t := 53) ?hr ?_; (case hd => rfl); (case hg => rfl); (case hr => first | (go_simp; done) | (go_simp; rfl)); intro b6 hg w6 hbox hb; have GE6 := Aside0.mk (show w.heap.size ≤ b6 by rw [hg]; exact below_size HB.out); have n9_ := Aside0.mk (below_step HB.out hb); clear HB; have HB := n9_; clear n9_; have BK6 := Aside0.mk hbox; clear hbox hg; have hz0 := (show w6.cell? ⟨b6, 0, none⟩ = some (.int .i64 0) from (blk_cell BK6.out 0).trans rfl); have hf0 := blk_frozen BK6.out 0; have hz1 := (show w6.cell? ⟨b6, 1, none⟩ = some (.int .i64 0) from (blk_cell BK6.out 1).trans rfl); have hf1 := blk_frozen BK6.out 1; have hz2 := (show w6.cell? ⟨b6, 2, none⟩ = some (.bool false) from (blk_cell BK6.out 2).trans rfl); have hf2 := blk_frozen BK6.out 2; skip; clear hb) | ((with_reducible refine gate_store (t := 53) (p := 6) rfl ?_); refine store_event (t := 53) (p := 6) (v := ?vo_6) (w1 := (((w6.setCell ⟨b6, 0, none⟩ (.int .i64 a.f0)).setCell ⟨b6, 1, none⟩ (.int .i64 a.f1)).setCell ⟨b6, 2, none⟩ (.bool a.f2))) ?hg ?ho ?hn ?hr ?_; (case ho => rfl); (case hg => rfl); (case hn => rfl); (case hr => first | (go_simp; done) | (go_simp; rfl)); intro w7 hw; have n0_ : Aside0 (Below w.heap.size w w7) := ⟨by rw [hw]; exact (below_set (below_set (below_set HB.out GE6.out) GE6.out) GE6.out)⟩; have n1_ : Aside0 (w7.heap[b6]? = some (.cells #[.int .i64 a.f0, .int .i64 a.f1, .bool a.f2] 53 (0, 0))) := ⟨by rw [hw]; exact (blk_list (blk_list (blk_list BK6.out 0 _) 1 _) 2 _)⟩; clear HB BK6 hw hz0 hf0 hz1 hf1 hz2 hf2; have HB := n0_; have BK6 := n1_; clear n0_ n1_; have hk6_0 := (show w7.cell? ⟨b6, 0, none⟩ = some (.int .i64 a.f0) from (blk_cell BK6.out 0).trans rfl); have hk6_1 := (show w7.cell? ⟨b6, 1, none⟩ = some (.int .i64 a.f1) from (blk_cell BK6.out 1).trans rfl); have hk6_2 := (show w7.cell? ⟨b6, 2, none⟩ = some (.bool a.f2) from (blk_cell BK6.out 2).trans rfl)))
            (go_ret; exact ⟨by rw [HF.out]; rfl, by repeat (first | (with_reducible first | exact HB.out | apply below_alloc | apply pw_below_drewN | apply below_drew1) | exact HB.out)⟩)
          · have d1 : (a.f0 == 3) = false := by simp [o3]
            by_cases o4 : a.f0 = 4
            · have d2 : (a.f0 == 4) = true := by simp [o4]
              have HF := Aside0.mk (show nodeOK x = false by unfold nodeOK; rw [all_not (l := x.f8) (p := aggOK) z53 HL.out (by rw [HXX.out]; simp [aggOK, o4]), Bool.and_false])
              clear o3 o4
              go_wp2_with (first | ((with_reducible refine gate_dst (N := 6) rfl ?_); refine box_event ?hg (N := 6) ?hd (cs := #[.int .i64 0, .int .i64 0, .bool false]) (t := 53) ?hr ?_; (case hd => rfl); (case hg => rfl); (case hr => first | (go_simp; done) | (go_simp; rfl)); intro b6 hg w6 hbox hb; have GE6 := Aside0.mk (show w.heap.size ≤ b6 by rw [hg]; exact below_size HB.out); have n9_ := Aside0.mk (below_step HB.out hb); clear HB; have HB := n9_; clear n9_; have BK6 := Aside0.mk hbox; clear hbox hg; have hz0 := (show w6.cell? ⟨b6, 0, none⟩ = some (.int .i64 0) from (blk_cell BK6.out 0).trans rfl); have hf0 := blk_frozen BK6.out 0; have hz1 := (show w6.cell? ⟨b6, 1, none⟩ = some (.int .i64 0) from (blk_cell BK6.out 1).trans rfl); have hf1 := blk_frozen BK6.out 1; have hz2 := (show w6.cell? ⟨b6, 2, none⟩ = some (.bool false) from (blk_cell BK6.out 2).trans rfl); have hf2 := blk_frozen BK6.out 2; skip; clear hb) | ((with_reducible refine gate_store (t := 53) (p := 6) rfl ?_); refine store_event (t := 53) (p := 6) (v := ?vo_6) (w1 := (((w6.setCell ⟨b6, 0, none⟩ (.int .i64 a.f0)).setCell ⟨b6, 1, none⟩ (.int .i64 a.f1)).setCell ⟨b6, 2, none⟩ (.bool a.f2))) ?hg ?ho ?hn ?hr ?_; (case ho => rfl); (case hg => rfl); (case hn => rfl); (case hr => first | (go_simp; done) | (go_simp; rfl)); intro w7 hw; have n0_ : Aside0 (Below w.heap.size w w7) := ⟨by rw [hw]; exact (below_set (below_set (below_set HB.out GE6.out) GE6.out) GE6.out)⟩; have n1_ : Aside0 (w7.heap[b6]? = some (.cells #[.int .i64 a.f0, .int .i64 a.f1, .bool a.f2] 53 (0, 0))) := ⟨by rw [hw]; exact (blk_list (blk_list (blk_list BK6.out 0 _) 1 _) 2 _)⟩; clear HB BK6 hw hz0 hf0 hz1 hf1 hz2 hf2; have HB := n0_; have BK6 := n1_; clear n0_ n1_; have hk6_0 := (show w7.cell? ⟨b6, 0, none⟩ = some (.int .i64 a.f0) from (blk_cell BK6.out 0).trans rfl); have hk6_1 := (show w7.cell? ⟨b6, 1, none⟩ = some (.int .i64 a.f1) from (blk_cell BK6.out 1).trans rfl); have hk6_2 := (show w7.cell? ⟨b6, 2, none⟩ = some (.bool a.f2) from (blk_cell BK6.out 2).trans rfl)))
              (go_ret; exact ⟨by rw [HF.out]; rfl, by repeat (first | (with_reducible first | exact HB.out | apply below_alloc | apply pw_below_drewN | apply below_drew1) | exact HB.out)⟩)
            · have d2 : (a.f0 == 4) = false := by simp [o4]
              have HT := Aside0.mk (show aggOK a = true by simp [aggOK, o3, o4])
              clear o3 o4
              go_wp2_with (first | ((with_reducible refine gate_dst (N := 6) rfl ?_); refine box_event ?hg (N := 6) ?hd (cs := #[.int .i64 0, .int .i64 0, .bool false]) (t := 53) ?hr ?_; (case hd => rfl); (case hg => rfl); (case hr => first | (go_simp; done) | (go_simp; rfl)); intro b6 hg w6 hbox hb; have GE6 := Aside0.mk (show w.heap.size ≤ b6 by rw [hg]; exact below_size HB.out); have n9_ := Aside0.mk (below_step HB.out hb); clear HB; have HB := n9_; clear n9_; have BK6 := Aside0.mk hbox; clear hbox hg; have hz0 := (show w6.cell? ⟨b6, 0, none⟩ = some (.int .i64 0) from (blk_cell BK6.out 0).trans rfl); have hf0 := blk_frozen BK6.out 0; have hz1 := (show w6.cell? ⟨b6, 1, none⟩ = some (.int .i64 0) from (blk_cell BK6.out 1).trans rfl); have hf1 := blk_frozen BK6.out 1; have hz2 := (show w6.cell? ⟨b6, 2, none⟩ = some (.bool false) from (blk_cell BK6.out 2).trans rfl); have hf2 := blk_frozen BK6.out 2; skip; clear hb) | ((with_reducible refine gate_store (t := 53) (p := 6) rfl ?_); refine store_event (t := 53) (p := 6) (v := ?vo_6) (w1 := (((w6.setCell ⟨b6, 0, none⟩ (.int .i64 a.f0)).setCell ⟨b6, 1, none⟩ (.int .i64 a.f1)).setCell ⟨b6, 2, none⟩ (.bool a.f2))) ?hg ?ho ?hn ?hr ?_; (case ho => rfl); (case hg => rfl); (case hn => rfl); (case hr => first | (go_simp; done) | (go_simp; rfl)); intro w7 hw; have n0_ : Aside0 (Below w.heap.size w w7) := ⟨by rw [hw]; exact (below_set (below_set (below_set HB.out GE6.out) GE6.out) GE6.out)⟩; have n1_ : Aside0 (w7.heap[b6]? = some (.cells #[.int .i64 a.f0, .int .i64 a.f1, .bool a.f2] 53 (0, 0))) := ⟨by rw [hw]; exact (blk_list (blk_list (blk_list BK6.out 0 _) 1 _) 2 _)⟩; clear HB BK6 hw hz0 hf0 hz1 hf1 hz2 hf2; have HB := n0_; have BK6 := n1_; clear n0_ n1_; have hk6_0 := (show w7.cell? ⟨b6, 0, none⟩ = some (.int .i64 a.f0) from (blk_cell BK6.out 0).trans rfl); have hk6_1 := (show w7.cell? ⟨b6, 1, none⟩ = some (.int .i64 a.f1) from (blk_cell BK6.out 1).trans rfl); have hk6_2 := (show w7.cell? ⟨b6, 2, none⟩ = some (.bool a.f2) from (blk_cell BK6.out 2).trans rfl)))
              go_roundw
              case rel => exact ⟨n, i + 1, (by first | exact congrArg (Value.int .i64) HW.out | go_num), ⟨by have := HI.out; omega⟩, ⟨fun j hj => by
                by_cases ej : j = i
                · subst ej; rw [HXX.out]; exact HT.out
                · exact HSM.out j (by omega)⟩, HB⟩
              case measure => rw [HW.out]; have := HL.out; show x.f8.length - ((i + 1 : Nat) : Int).toNat < x.f8.length - ((i : Nat) : Int).toNat; omega
    | succ n =>
      have hlt : decide ((i : Int) < (x.f6.length : Int)) = true := decide_eq_true (by have := HI.out; omega)
      have hlt2 : decide (i < x.f6.length) = true := decide_eq_true (by have := HI.out; omega)
      have q0 : (0 : Int) ≤ (i : Int) := by omega
      have q1 : (i : Int) < (x.f6.length : Int) := by have := HI.out; omega
      have q2 : (i < x.f6.length) = True := eq_true (by have := HI.out; omega)
      have HW := Aside0.mk (show wrap64 ((i : Int) + 1) = ((i + 1 : Nat) : Int) by have := HI.out; have := HM.out; unfold wrap64; omega)
      have HL := Aside0.mk (show i < x.f6.length by have := HI.out; omega)
      obtain ⟨ad, AE, cE, ea, hx0, le, ge⟩ := at_T44 G6.out (i : Int) q0 q1
      subst ea
      replace hx0 := (HB.out.cell (World.block_lt_of_cell? w _ hx0)).trans hx0
      simp only [Int.toNat_natCast] at hx0
      obtain ⟨e, hX⟩ : ∃ e, rd_T44 x.f6 (i : Int) = e := ⟨_, rfl⟩
      rw [hX] at hx0
      simp only [hX] at ge le
      have GE_ := Aside0.mk ge
      have LE_ := Aside0.mk le
      have HXX := Aside0.mk (show x.f6.getD i z44 = e from hX)
      have HSE := Aside0.mk (show smE e by rw [← HXX.out]; exact HSS.out i)
      clear hX ge le
      replace q0 := eq_true q0
      replace q1 := eq_true q1
      have tok17 : True := trivial
      have tok18 : True := trivial
      rcases Bool.eq_false_or_eq_true (tableB e.f0) with ht | ht
      · rcases Bool.eq_false_or_eq_true (exprSafe e.f0) with hs | hs
        · have HU := Aside0.mk hs
          have HT := Aside0.mk ht
          have HE := Aside0.mk (show exprOK e = true by unfold exprOK; rw [ht, hs]; rfl)
          clear ht hs
          go_wp2_with (first | ((with_reducible refine gate_dst (N := 4) rfl ?_); refine box_event ?hg (N := 4) ?hd (cs := #[.slice none 0 0]) (t := 44) ?hr ?_; (case hd => rfl); (case hg => rfl); (case hr => first | (go_simp; done) | (go_simp; rfl)); intro b4 hg w4 hbox hb; have GE4 := Aside0.mk (show w.heap.size ≤ b4 by rw [hg]; exact below_size HB.out); have n9_ := Aside0.mk (below_step HB.out hb); clear HB; have HB := n9_; clear n9_; have BK4 := Aside0.mk hbox; clear hbox hg; have hz0 := (show w4.cell? ⟨b4, 0, none⟩ = some (.slice none 0 0) from (blk_cell BK4.out 0).trans rfl); have hf0 := blk_frozen BK4.out 0; have k_ := Aside0.mk (blk_below BK1.out hb); clear BK1; have BK1 := k_; clear k_; have NE4_0 := Aside0.mk (blk_ne BK1.out BK4.out (by decide)); clear hb) | ((with_reducible refine gate_store (t := 44) (p := 4) rfl ?_); refine store_event (t := 44) (p := 4) (v := ?vo_4) (w1 := (w4.setCell ⟨b4, 0, none⟩ (.slice AE e.f0.length cE))) ?hg ?ho ?hn ?hr ?_; (case ho => rfl); (case hg => rfl); (case hn => rfl); (case hr => first | (go_simp; done) | (go_simp; rfl)); intro w7 hw; have n0_ : Aside0 (Below w.heap.size w w7) := ⟨by rw [hw]; exact (below_set HB.out GE4.out)⟩; have n1_ : Aside0 (w7.heap[b4]? = some (.cells #[.slice AE e.f0.length cE] 44 (0, 0))) := ⟨by rw [hw]; exact (blk_list BK4.out 0 _)⟩; have kk0_ : Aside0 (w7.heap[b1]? = some (.cells #[.int .i64 x.f0, .int .i64 x.f1, .int .i64 x.f2, .int .i64 x.f3, .int .i64 x.f4, .int .i64 x.f5, .slice (some ad) x.f6.length c6, .slice A7 x.f7.length c7, .slice A8 x.f8.length c8, .slice A9 x.f9.length c9, .slice A10 x.f10.length c10] 39 (0, 0))) := ⟨by rw [hw]; exact (blk_far (p := ⟨b4, 0, none⟩) BK1.out NE4_0.out _)⟩; clear HB BK4 BK1 hw hz0 hf0; have HB := n0_; have BK4 := n1_; clear n0_ n1_; have BK1 := kk0_; clear kk0_; have hk4_0 := (show w7.cell? ⟨b4, 0, none⟩ = some (.slice AE e.f0.length cE) from (blk_cell BK4.out 0).trans rfl)) | (go_at_call 17; have t_ := tok17; clear t_; (with_reducible refine (stands17 e.f0 AE cE _ (Kd.C_below GE_.out HB.out) HSE.out.1 HSE.out.2 LE_.out).mono ?_); rintro en v17 ⟨rfl, hb⟩; have n0_ := Aside0.mk (below_step HB.out hb); have n1_ := Aside0.mk (blk_below BK1.out hb); have n2_ := Aside0.mk (blk_below BK4.out hb); clear HB BK1 BK4 hb; have HB := n0_; have BK1 := n1_; have BK4 := n2_; clear n0_ n1_ n2_; clear tok17; rw [HT.out]; have hq17 := (show v17.cell? ⟨b4, 0, none⟩ = some (.slice AE e.f0.length cE) from (blk_cell BK4.out 0).trans rfl)) | (go_at_call 18; have t_ := tok18; clear t_; (with_reducible refine (safeExpr18 e.f0 AE cE _ (Kd.C_below GE_.out HB.out) HSE.out.1 HT.out).mono ?_); rintro en v18 ⟨rfl, hb⟩; have n0_ := Aside0.mk (below_step HB.out hb); have n1_ := Aside0.mk (blk_below BK1.out hb); have n2_ := Aside0.mk (blk_below BK4.out hb); clear HB BK1 BK4 hb; have HB := n0_; have BK1 := n1_; have BK4 := n2_; clear n0_ n1_ n2_; clear tok18; rw [HU.out]; have hq18 := (show v18.cell? ⟨b4, 0, none⟩ = some (.slice AE e.f0.length cE) from (blk_cell BK4.out 0).trans rfl)))
          go_roundw
          case rel => exact ⟨n, i + 1, (by first | exact congrArg (Value.int .i64) HW.out | go_num), ⟨by have := HI.out; omega⟩, ⟨fun j hj => by
            by_cases ej : j = i
            · subst ej; rw [HXX.out]; exact HE.out
            · exact HSM.out j (by omega)⟩, BK1, HB⟩
          case measure => rw [HW.out]; have := HL.out; show x.f6.length - ((i + 1 : Nat) : Int).toNat < x.f6.length - ((i : Nat) : Int).toNat; omega
        · have HU := Aside0.mk hs
          have HT := Aside0.mk ht
          have HE := Aside0.mk (show exprOK e = false by unfold exprOK; rw [ht, hs]; rfl)
          have HF := Aside0.mk (show nodeOK x = false by unfold nodeOK; rw [all_not (l := x.f6) (p := exprOK) z44 HL.out (by rw [HXX.out]; exact HE.out)]; rfl)
          clear ht hs
          go_wp2_with (first | ((with_reducible refine gate_dst (N := 4) rfl ?_); refine box_event ?hg (N := 4) ?hd (cs := #[.slice none 0 0]) (t := 44) ?hr ?_; (case hd => rfl); (case hg => rfl); (case hr => first | (go_simp; done) | (go_simp; rfl)); intro b4 hg w4 hbox hb; have GE4 := Aside0.mk (show w.heap.size ≤ b4 by rw [hg]; exact below_size HB.out); have n9_ := Aside0.mk (below_step HB.out hb); clear HB; have HB := n9_; clear n9_; have BK4 := Aside0.mk hbox; clear hbox hg; have hz0 := (show w4.cell? ⟨b4, 0, none⟩ = some (.slice none 0 0) from (blk_cell BK4.out 0).trans rfl); have hf0 := blk_frozen BK4.out 0; have k_ := Aside0.mk (blk_below BK1.out hb); clear BK1; have BK1 := k_; clear k_; have NE4_0 := Aside0.mk (blk_ne BK1.out BK4.out (by decide)); clear hb) | ((with_reducible refine gate_store (t := 44) (p := 4) rfl ?_); refine store_event (t := 44) (p := 4) (v := ?vo_4) (w1 := (w4.setCell ⟨b4, 0, none⟩ (.slice AE e.f0.length cE))) ?hg ?ho ?hn ?hr ?_; (case ho => rfl); (case hg => rfl); (case hn => rfl); (case hr => first | (go_simp; done) | (go_simp; rfl)); intro w7 hw; have n0_ : Aside0 (Below w.heap.size w w7) := ⟨by rw [hw]; exact (below_set HB.out GE4.out)⟩; have n1_ : Aside0 (w7.heap[b4]? = some (.cells #[.slice AE e.f0.length cE] 44 (0, 0))) := ⟨by rw [hw]; exact (blk_list BK4.out 0 _)⟩; have kk0_ : Aside0 (w7.heap[b1]? = some (.cells #[.int .i64 x.f0, .int .i64 x.f1, .int .i64 x.f2, .int .i64 x.f3, .int .i64 x.f4, .int .i64 x.f5, .slice (some ad) x.f6.length c6, .slice A7 x.f7.length c7, .slice A8 x.f8.length c8, .slice A9 x.f9.length c9, .slice A10 x.f10.length c10] 39 (0, 0))) := ⟨by rw [hw]; exact (blk_far (p := ⟨b4, 0, none⟩) BK1.out NE4_0.out _)⟩; clear HB BK4 BK1 hw hz0 hf0; have HB := n0_; have BK4 := n1_; clear n0_ n1_; have BK1 := kk0_; clear kk0_; have hk4_0 := (show w7.cell? ⟨b4, 0, none⟩ = some (.slice AE e.f0.length cE) from (blk_cell BK4.out 0).trans rfl)) | (go_at_call 17; have t_ := tok17; clear t_; (with_reducible refine (stands17 e.f0 AE cE _ (Kd.C_below GE_.out HB.out) HSE.out.1 HSE.out.2 LE_.out).mono ?_); rintro en v17 ⟨rfl, hb⟩; have n0_ := Aside0.mk (below_step HB.out hb); have n1_ := Aside0.mk (blk_below BK1.out hb); have n2_ := Aside0.mk (blk_below BK4.out hb); clear HB BK1 BK4 hb; have HB := n0_; have BK1 := n1_; have BK4 := n2_; clear n0_ n1_ n2_; clear tok17; rw [HT.out]; have hq17 := (show v17.cell? ⟨b4, 0, none⟩ = some (.slice AE e.f0.length cE) from (blk_cell BK4.out 0).trans rfl)) | (go_at_call 18; have t_ := tok18; clear t_; (with_reducible refine (safeExpr18 e.f0 AE cE _ (Kd.C_below GE_.out HB.out) HSE.out.1 HT.out).mono ?_); rintro en v18 ⟨rfl, hb⟩; have n0_ := Aside0.mk (below_step HB.out hb); have n1_ := Aside0.mk (blk_below BK1.out hb); have n2_ := Aside0.mk (blk_below BK4.out hb); clear HB BK1 BK4 hb; have HB := n0_; have BK1 := n1_; have BK4 := n2_; clear n0_ n1_ n2_; clear tok18; rw [HU.out]; have hq18 := (show v18.cell? ⟨b4, 0, none⟩ = some (.slice AE e.f0.length cE) from (blk_cell BK4.out 0).trans rfl)))
          (go_ret; exact ⟨by rw [HF.out]; rfl, by repeat (first | (with_reducible first | exact HB.out | apply below_alloc | apply pw_below_drewN | apply below_drew1) | exact HB.out)⟩)
      · have HT := Aside0.mk ht
        have HE := Aside0.mk (show exprOK e = false by unfold exprOK; rw [ht]; rfl)
        have HF := Aside0.mk (show nodeOK x = false by unfold nodeOK; rw [all_not (l := x.f6) (p := exprOK) z44 HL.out (by rw [HXX.out]; exact HE.out)]; rfl)
        clear ht
        go_wp2_with (first | ((with_reducible refine gate_dst (N := 4) rfl ?_); refine box_event ?hg (N := 4) ?hd (cs := #[.slice none 0 0]) (t := 44) ?hr ?_; (case hd => rfl); (case hg => rfl); (case hr => first | (go_simp; done) | (go_simp; rfl)); intro b4 hg w4 hbox hb; have GE4 := Aside0.mk (show w.heap.size ≤ b4 by rw [hg]; exact below_size HB.out); have n9_ := Aside0.mk (below_step HB.out hb); clear HB; have HB := n9_; clear n9_; have BK4 := Aside0.mk hbox; clear hbox hg; have hz0 := (show w4.cell? ⟨b4, 0, none⟩ = some (.slice none 0 0) from (blk_cell BK4.out 0).trans rfl); have hf0 := blk_frozen BK4.out 0; have k_ := Aside0.mk (blk_below BK1.out hb); clear BK1; have BK1 := k_; clear k_; have NE4_0 := Aside0.mk (blk_ne BK1.out BK4.out (by decide)); clear hb) | ((with_reducible refine gate_store (t := 44) (p := 4) rfl ?_); refine store_event (t := 44) (p := 4) (v := ?vo_4) (w1 := (w4.setCell ⟨b4, 0, none⟩ (.slice AE e.f0.length cE))) ?hg ?ho ?hn ?hr ?_; (case ho => rfl); (case hg => rfl); (case hn => rfl); (case hr => first | (go_simp; done) | (go_simp; rfl)); intro w7 hw; have n0_ : Aside0 (Below w.heap.size w w7) := ⟨by rw [hw]; exact (below_set HB.out GE4.out)⟩; have n1_ : Aside0 (w7.heap[b4]? = some (.cells #[.slice AE e.f0.length cE] 44 (0, 0))) := ⟨by rw [hw]; exact (blk_list BK4.out 0 _)⟩; have kk0_ : Aside0 (w7.heap[b1]? = some (.cells #[.int .i64 x.f0, .int .i64 x.f1, .int .i64 x.f2, .int .i64 x.f3, .int .i64 x.f4, .int .i64 x.f5, .slice (some ad) x.f6.length c6, .slice A7 x.f7.length c7, .slice A8 x.f8.length c8, .slice A9 x.f9.length c9, .slice A10 x.f10.length c10] 39 (0, 0))) := ⟨by rw [hw]; exact (blk_far (p := ⟨b4, 0, none⟩) BK1.out NE4_0.out _)⟩; clear HB BK4 BK1 hw hz0 hf0; have HB := n0_; have BK4 := n1_; clear n0_ n1_; have BK1 := kk0_; clear kk0_; have hk4_0 := (show w7.cell? ⟨b4, 0, none⟩ = some (.slice AE e.f0.length cE) from (blk_cell BK4.out 0).trans rfl)) | (go_at_call 17; have t_ := tok17; clear t_; (with_reducible refine (stands17 e.f0 AE cE _ (Kd.C_below GE_.out HB.out) HSE.out.1 HSE.out.2 LE_.out).mono ?_); rintro en v17 ⟨rfl, hb⟩; have n0_ := Aside0.mk (below_step HB.out hb); have n1_ := Aside0.mk (blk_below BK1.out hb); have n2_ := Aside0.mk (blk_below BK4.out hb); clear HB BK1 BK4 hb; have HB := n0_; have BK1 := n1_; have BK4 := n2_; clear n0_ n1_ n2_; clear tok17; rw [HT.out]; have hq17 := (show v17.cell? ⟨b4, 0, none⟩ = some (.slice AE e.f0.length cE) from (blk_cell BK4.out 0).trans rfl)))
        (go_ret; exact ⟨by rw [HF.out]; rfl, by repeat (first | (with_reducible first | exact HB.out | apply below_alloc | apply pw_below_drewN | apply below_drew1) | exact HB.out)⟩)
end Go.Proofs.Ytphlfmgllbpbhaa.QFnExactSafePlan
