/- Proved: what laws' functions toX do: a deep copy that is owned. Conditions: the arguments are read, and no list is long. -/
import Derived.Test.YtphlfmgllbpbhaaQFnExactSafePlanx0
namespace Go.Proofs.Ytphlfmgllbpbhaa.QFnExactSafePlan
open Go.RowKit Go.Proofs.YtphlfmgllbpbhaaW.PrintWords Go.Proofs.YtphlfmgllbpbhaaW.PrintLast Go.Proofs.YtphlfmgllbpbhaaW.PrintMore
set_option linter.unusedVariables false
set_option linter.unusedSimpArgs false
theorem blk_list {w : World} {g : Nat} {t : TypeId} {cs : List Value} (h : w.heap[g]? = some (.cells cs.toArray t (0, 0))) (i : Nat) (u : Value) : (w.setCell ⟨g, i, none⟩ u).heap[g]? = some (.cells (cs.set i u).toArray t (0, 0)) := by
  rw [blk_set h i u, List.setIfInBounds_toArray]
theorem take_set_step {α : Type} (xs ys : List α) (i : Nat) (hx : i < xs.length) (hy : i < ys.length) (h : xs.take i = ys.take i) (v z : α) (hv : ys.getD i z = v) : (xs.set i v).take (i + 1) = ys.take (i + 1) := by
  rw [List.take_succ_eq_append_getElem hy, ← h, List.take_succ_eq_append_getElem (by rw [List.length_set]; exact hx), List.take_set_of_le (Nat.le_refl _), ← hv]
  simp [List.getD, hy]
theorem R_not1 {α : Type} {d : Kd α} {e : Nat} {w w0 : World} {ok : Nat → Prop} {v : Value} {xs : List α} {b : Nat} (h : d.R e w w0.heap.size ok v xs) (hb : b < w0.heap.size) : d.R e w w0.heap.size (fun k => k ≠ b) v xs := Kd.R_mono (Kd.R_bound h) (fun k hk => by have := hk.2.1; omega)
theorem R_not2 {α : Type} {d : Kd α} {e : Nat} {w w0 : World} {ok : Nat → Prop} {v : Value} {xs : List α} {b b' : Nat} (h : d.R e w w0.heap.size ok v xs) (hb : b < w0.heap.size) (hb' : b' < w0.heap.size) : d.R e w w0.heap.size (fun k => k ≠ b ∧ k ≠ b') v xs := Kd.R_mono (Kd.R_bound h) (fun k hk => by have := hk.2.1; exact ⟨by omega, by omega⟩)
theorem list_1 (l : List Value) (h : l.length = 1) : ∃ y0, l = [y0] := by
  match l, h with
  | [y0], _ => exact ⟨y0, rfl⟩
theorem list_3 (l : List Value) (h : l.length = 3) : ∃ y0 y1 y2, l = [y0, y1, y2] := by
  match l, h with
  | [y0, y1, y2], _ => exact ⟨y0, y1, y2, rfl⟩
theorem list_8 (l : List Value) (h : l.length = 8) : ∃ y0 y1 y2 y3 y4 y5 y6 y7, l = [y0, y1, y2, y3, y4, y5, y6, y7] := by
  match l, h with
  | [y0, y1, y2, y3, y4, y5, y6, y7], _ => exact ⟨y0, y1, y2, y3, y4, y5, y6, y7, rfl⟩
theorem list_11 (l : List Value) (h : l.length = 11) : ∃ y0 y1 y2 y3 y4 y5 y6 y7 y8 y9 y10, l = [y0, y1, y2, y3, y4, y5, y6, y7, y8, y9, y10] := by
  match l, h with
  | [y0, y1, y2, y3, y4, y5, y6, y7, y8, y9, y10], _ => exact ⟨y0, y1, y2, y3, y4, y5, y6, y7, y8, y9, y10, rfl⟩
def cv102 (x : S102) : S47 := ⟨x.f0, x.f1, x.f2⟩
def sm102 (x : S102) : Prop := True
set_option maxHeartbeats 4000000 in
set_option maxRecDepth 100000 in
theorem to61 (x : S102) (w : World) (hs : sm102 x) :
    Calls Try.prog 61 #[.agg #[.int .i64 x.f0, .int .i64 x.f1, .string x.f2]] w fun e w' => e = .returned (.agg #[.int .i64 x.f0, .int .i64 x.f1, .string x.f2]) ∧ Below w.heap.size w w' := by
  have hu := Try.underlying102
  have hv := Try.underlying47
  clear hs
  have HB := Aside0.mk (Below.refl w.heap.size w)
  go_enter Try.func61, Try.ntmps61
  go_wp2_with (first
    | ((with_reducible refine gate_dst (N := 1) rfl ?_); refine box_event ?hg (N := 1) ?hd (cs := #[.int .i64 x.f0, .int .i64 x.f1, .string x.f2]) (t := 102) ?hr ?_; (case hd => rfl); (case hg => rfl); (case hr => first | (go_simp; done) | (go_simp; rfl)); intro b1 hg w1 hbox hb; have GE1 := Aside0.mk (show w.heap.size ≤ b1 by rw [hg]; exact below_size HB.out); have n9_ := Aside0.mk (below_step HB.out hb); clear HB; have HB := n9_; clear n9_; have BK1 := Aside0.mk hbox; clear hbox hg hb)
    | ((with_reducible refine gate_dst (N := 2) rfl ?_); refine box_event ?hg (N := 2) ?hd (cs := #[.int .i64 0, .int .i64 0, .string ⟨#[]⟩]) (t := 47) ?hr ?_; (case hd => rfl); (case hg => rfl); (case hr => first | (go_simp; done) | (go_simp; rfl)); intro b2 hg w2 hbox hb; have GE2 := Aside0.mk (show w.heap.size ≤ b2 by rw [hg]; exact below_size HB.out); have n1_ := Aside0.mk (blk_below BK1.out hb); have NE1_2 := Aside0.mk (show b1 ≠ b2 by rw [hg]; exact Nat.ne_of_lt (blk_lt BK1.out)); clear BK1; have BK1 := n1_; clear n1_; have n9_ := Aside0.mk (below_step HB.out hb); clear HB; have HB := n9_; clear n9_; have BK2 := Aside0.mk hbox; clear hbox hg hb)
    | ((with_reducible refine gate_dst (N := 3) rfl ?_); refine box_event ?hg (N := 3) ?hd (cs := #[.int .i64 0, .int .i64 0, .string ⟨#[]⟩]) (t := 47) ?hr ?_; (case hd => rfl); (case hg => rfl); (case hr => first | (go_simp; done) | (go_simp; rfl)); intro b3 hg w3 hbox hb; have GE3 := Aside0.mk (show w.heap.size ≤ b3 by rw [hg]; exact below_size HB.out); have n1_ := Aside0.mk (blk_below BK1.out hb); have NE1_3 := Aside0.mk (show b1 ≠ b3 by rw [hg]; exact Nat.ne_of_lt (blk_lt BK1.out)); clear BK1; have BK1 := n1_; clear n1_; have n2_ := Aside0.mk (blk_below BK2.out hb); have NE2_3 := Aside0.mk (show b2 ≠ b3 by rw [hg]; exact Nat.ne_of_lt (blk_lt BK2.out)); clear BK2; have BK2 := n2_; clear n2_; have n9_ := Aside0.mk (below_step HB.out hb); clear HB; have HB := n9_; clear n9_; have BK3 := Aside0.mk hbox; clear hbox hg hb; have hne := NE1_3.out; have hne2 := NE1_3.out.symm; have hs0_w3 := (show w3.cell? ⟨b1, 0, none⟩ = some (.int .i64 x.f0) from (blk_cell BK1.out 0).trans rfl); have hs1_w3 := (show w3.cell? ⟨b1, 1, none⟩ = some (.int .i64 x.f1) from (blk_cell BK1.out 1).trans rfl); have hs2_w3 := (show w3.cell? ⟨b1, 2, none⟩ = some (.string x.f2) from (blk_cell BK1.out 2).trans rfl); have hf0_w3 := (show w3.frozen? ⟨b3, 0, none⟩ = false from blk_frozen BK3.out 0); have hf1_w3 := (show w3.frozen? ⟨b3, 1, none⟩ = false from blk_frozen BK3.out 1); have hf2_w3 := (show w3.frozen? ⟨b3, 2, none⟩ = false from blk_frozen BK3.out 2); have hc0_w3 := (show w3.cell? ⟨b3, 0, none⟩ = some (.int .i64 0) from (blk_cell BK3.out 0).trans rfl); have hc1_w3 := (show w3.cell? ⟨b3, 1, none⟩ = some (.int .i64 0) from (blk_cell BK3.out 1).trans rfl); have hc2_w3 := (show w3.cell? ⟨b3, 2, none⟩ = some (.string ⟨#[]⟩) from (blk_cell BK3.out 2).trans rfl); have hz0_w3 := (show w3.cell? ⟨b2, 0, none⟩ = some (.int .i64 0) from (blk_cell BK2.out 0).trans rfl); have hz1_w3 := (show w3.cell? ⟨b2, 1, none⟩ = some (.int .i64 0) from (blk_cell BK2.out 1).trans rfl); have hz2_w3 := (show w3.cell? ⟨b2, 2, none⟩ = some (.string ⟨#[]⟩) from (blk_cell BK2.out 2).trans rfl); have hg0_w3 := (show w3.frozen? ⟨b2, 0, none⟩ = false from blk_frozen BK2.out 0); have hg1_w3 := (show w3.frozen? ⟨b2, 1, none⟩ = false from blk_frozen BK2.out 1); have hg2_w3 := (show w3.frozen? ⟨b2, 2, none⟩ = false from blk_frozen BK2.out 2); have hn3 := NE2_3.out; have hn4 := NE2_3.out.symm; have n0_ := Aside0.mk (show Below w.heap.size w (((w3.setCell ⟨b3, 0, none⟩ (.int .i64 x.f0)).setCell ⟨b3, 1, none⟩ (.int .i64 x.f1)).setCell ⟨b3, 2, none⟩ (.string x.f2)) from (below_set (below_set (below_set HB.out GE3.out) GE3.out) GE3.out)); have n1_ := Aside0.mk (show (((w3.setCell ⟨b3, 0, none⟩ (.int .i64 x.f0)).setCell ⟨b3, 1, none⟩ (.int .i64 x.f1)).setCell ⟨b3, 2, none⟩ (.string x.f2)).heap[b1]? = _ from (blk_far (blk_far (blk_far BK1.out NE1_3.out _) NE1_3.out _) NE1_3.out _)); have n2_ := Aside0.mk (show (((w3.setCell ⟨b3, 0, none⟩ (.int .i64 x.f0)).setCell ⟨b3, 1, none⟩ (.int .i64 x.f1)).setCell ⟨b3, 2, none⟩ (.string x.f2)).heap[b2]? = _ from (blk_far (blk_far (blk_far BK2.out NE2_3.out _) NE2_3.out _) NE2_3.out _)); have n3_ : Aside0 ((((w3.setCell ⟨b3, 0, none⟩ (.int .i64 x.f0)).setCell ⟨b3, 1, none⟩ (.int .i64 x.f1)).setCell ⟨b3, 2, none⟩ (.string x.f2)).heap[b3]? = some (.cells #[.int .i64 x.f0, .int .i64 x.f1, .string x.f2] 47 (0, 0))) := ⟨(blk_list (blk_list (blk_list BK3.out 0 _) 1 _) 2 _)⟩; clear HB BK1 BK2 BK3; have HB := n0_; have BK1 := n1_; have BK2 := n2_; have BK3 := n3_; clear n0_ n1_ n2_ n3_))
  refine bodyPost_ret (results_cell_row rfl _ _ b2 47 #[.int .i64 x.f0, .int .i64 x.f1, .string x.f2] (0, 0) _ rfl (blk_list (blk_list (blk_list BK2.out 0 _) 1 _) 2 _) Try.underlying47 rfl (by kernel_rfl)) rfl ?_
  exact ⟨rfl, (below_set (below_set (below_set HB.out GE2.out) GE2.out) GE2.out)⟩
def smL3 (l : List Int) : Prop := l.length ≤ 1048576
set_option maxHeartbeats 4000000 in
set_option maxRecDepth 100000 in
theorem to33 (l : List Int) (A0 : Option Addr) (c0 : Nat) (w : World) (hr : Kd.C (Kd.int .i64) w A0 l.length l) (hc : l.length ≤ c0) (hs : smL3 l) :
    Calls Try.prog 33 #[.slice A0 l.length c0] w fun e w' => ∃ (A : Option Addr) (c : Nat), e = .returned (.slice A l.length c) ∧ Kd.R (Kd.int .i64) 3 w' w.heap.size (fun _ => True) (.slice A l.length c) l ∧ Below w.heap.size w w' := by
  have hl : l.length ≤ 1048576 := hs
  have HLL := Aside0.mk hl
  have HS := Aside0.mk hs
  have HR := Aside0.mk hr
  have h00 : 0 ≤ (l.length : Int) := by omega
  clear hr hs hl
  have HB := Aside0.mk (Below.refl w.heap.size w)
  go_enter Try.func33, Try.ntmps33
  go_wp2_with (first | ((with_reducible refine gate_dst (N := 7) rfl ?_); refine Kd.R_make (Kd.int .i64) _ 3 rfl (N := 7) rfl 35 _ _ rfl (l.length : Int) rfl rfl Try.underlying35 (.int .i64 0) 8 info3 rfl (by decide) (by decide) 0 (ok := fun _ => True) (okp := fun _ => True) rfl (fun _ hk => hk) trivial h00 (by have := HLL.out; simp only [Int.toNat_natCast]; omega) (Below.refl _ _) (Nat.le_refl _) ?_; intro vo w4 ho hb hg_ hn_; rw [Int.toNat_natCast] at ho; have HO := Aside0.mk (Kd.R_lower ho (below_size HB.out)); have n0_ := Aside0.mk (below_step HB.out hb); clear HB ho hb hg_ hn_; have HB := n0_; clear n0_))
  go_loopw [4] (fun v w' => ∃ (n i : Nat) (xs : List Int), v = .int .i64 (i : Int) ∧ Aside0 (i + n = l.length ∧ xs.length = l.length ∧ xs.take i = (l).take i) ∧ Aside0 (Kd.R (Kd.int .i64) 3 w' w.heap.size (fun _ => True) vo xs) ∧ Aside0 (Below w.heap.size w w')) (fun v _ => l.length - (intOf v).toNat)
  case atStart => exact ⟨l.length, 0, _, rfl, ⟨by omega, List.length_replicate, rfl⟩, HO, HB⟩
  case round =>
    clear HO
    obtain ⟨n, i, xs, rfl, HI, HO, HB⟩ := hrel
    cases n with
    | zero =>
      have hlt : decide ((i : Int) < (l.length : Int)) = false := decide_eq_false (by have := HI.out; omega)
      have hlt2 : decide (i < l.length) = false := decide_eq_false (by have := HI.out; omega)
      have HE := Aside0.mk (show xs = l by have h := HI.out; rw [← List.take_of_length_le (show xs.length ≤ i by omega), h.2.2, List.take_of_length_le (by first | omega | (rw [List.length_map]; omega))])
      have HO2 : Aside0 (Kd.R (Kd.int .i64) 3 wr w.heap.size (fun _ => True) vo l) := ⟨HE.out ▸ HO.out⟩
      obtain ⟨A, c, e9⟩ := Kd.R_slice HO2.out
      replace e9 : vo = .slice A l.length c := e9.trans (by first | rfl | simp)
      go_wp2
      go_ret
      exact ⟨A, c, congrArg Ending.returned e9, e9 ▸ HO2.out, HB.out⟩
    | succ n =>
      have hlt : decide ((i : Int) < (l.length : Int)) = true := decide_eq_true (by have := HI.out; omega)
      have hlt2 : decide (i < l.length) = true := decide_eq_true (by have := HI.out; omega)
      have q0 : (0 : Int) ≤ (i : Int) := by omega
      have q1 : (i : Int) < (l.length : Int) := by have := HI.out; omega
      have q2 : (i < l.length) = True := eq_true (by have := HI.out; omega)
      have HW := Aside0.mk (show wrap64 ((i : Int) + 1) = ((i + 1 : Nat) : Int) by have := HI.out; have := HLL.out; unfold wrap64; omega)
      have HL := Aside0.mk (show i < l.length by have := HI.out; omega)
      obtain ⟨g, cap, e9, hge, hlt9, _⟩ := Kd.R_form HO.out (by have := HI.out; omega)
      rw [HI.out.2.1] at e9
      subst e9
      have GE := Aside0.mk hge
      have GL := Aside0.mk hlt9
      clear hge hlt9
      obtain ⟨ad, ea, hx0⟩ := Kd.at_int (Kd.C_below HR.out HB.out) (i : Int) q0 q1
      subst ea
      simp only [Int.toNat_natCast] at hx0
      obtain ⟨x, hX⟩ : ∃ x, rd l (i : Int) = x := ⟨_, rfl⟩
      rw [hX] at hx0
      have HXX := Aside0.mk (show l.getD i 0 = x from hX)
      obtain ⟨hco, hfo⟩ := Kd.R_celln (e := 3) (enc := Value.int .i64) (h1 := fun _ => rfl) 0 HO.out (i : Int) q0 q1
      simp only [Int.toNat_natCast] at hfo hco
      have hp := Kd.R_putn HO.out (i : Int) x
      rw [Int.toNat_natCast] at hp
      have n0_ := Aside0.mk hp
      have n1_ := Aside0.mk (below_set (j := i) (v := .int .i64 x) HB.out GE.out)
      clear hX hp HO HB
      have HO := n0_
      have HB := n1_
      clear n0_ n1_
      replace q0 := eq_true q0
      replace q1 := eq_true q1
      go_wp2
      have HX := Aside0.mk (show (xs.set i x).take (i + 1) = (l).take (i + 1) from take_set_step xs (l) i (by have := HI.out; omega) (by first | exact HL.out | (rw [List.length_map]; exact HL.out)) HI.out.2.2 _ _ (HXX.out))
      go_roundw
      case rel => exact ⟨n, i + 1, xs.set i x, congrArg (Value.int .i64) HW.out, ⟨by have := HI.out; omega, by rw [List.length_set]; exact HI.out.2.1, HX.out⟩, HO, HB⟩
      case measure => rw [HW.out]; have := HL.out; show l.length - ((i + 1 : Nat) : Int).toNat < l.length - ((i : Nat) : Int).toNat; omega
def cv104 (x : S104) : S49 := ⟨x.f0, x.f1, x.f2, x.f3, (cv102 x.f4), x.f5⟩
def sm104 (x : S104) : Prop := sm102 x.f4 ∧ smL3 x.f5 ∧ True
set_option maxHeartbeats 4000000 in
set_option maxRecDepth 100000 in
theorem to58 (x : S104) (A7 : Option Addr) (c7 : Nat) (w : World) (g7 : Kd.C (Kd.int .i64) w A7 x.f5.length x.f5) (l7 : x.f5.length ≤ c7) (hs : sm104 x) :
    Calls Try.prog 58 #[.agg #[.int .i64 x.f0, .int .i64 x.f1, .int .i64 x.f2, .int .i64 x.f3, .int .i64 x.f4.f0, .int .i64 x.f4.f1, .string x.f4.f2, .slice A7 x.f5.length c7]] w fun e w' => ∃ (B7 : Option Addr) (d7 : Nat), e = .returned (.agg #[.int .i64 x.f0, .int .i64 x.f1, .int .i64 x.f2, .int .i64 x.f3, .int .i64 x.f4.f0, .int .i64 x.f4.f1, .string x.f4.f2, .slice B7 x.f5.length d7]) ∧ Kd.R (Kd.int .i64) 3 w' w.heap.size (fun _ => True) (.slice B7 x.f5.length d7) x.f5 ∧ Below w.heap.size w w' := by
  have hu := Try.underlying104
  have hv := Try.underlying49
  have G7 := Aside0.mk g7
  have L7 := Aside0.mk l7
  obtain ⟨s4, s5, _⟩ := hs
  have SM4 := Aside0.mk s4
  have SM5 := Aside0.mk s5
  clear g7 l7 s4 s5
  have HB := Aside0.mk (Below.refl w.heap.size w)
  go_enter Try.func58, Try.ntmps58
  have tok0 : True := trivial
  have tok1 : True := trivial
  go_wp2_with (first
    | ((with_reducible refine gate_dst (N := 1) rfl ?_); refine box_event ?hg (N := 1) ?hd (cs := #[.int .i64 x.f0, .int .i64 x.f1, .int .i64 x.f2, .int .i64 x.f3, .int .i64 x.f4.f0, .int .i64 x.f4.f1, .string x.f4.f2, .slice A7 x.f5.length c7]) (t := 104) ?hr ?_; (case hd => rfl); (case hg => rfl); (case hr => first | (go_simp; done) | (go_simp; rfl)); intro b1 hg w1 hbox hb; have GE1 := Aside0.mk (show w.heap.size ≤ b1 by rw [hg]; exact below_size HB.out); have n9_ := Aside0.mk (below_step HB.out hb); clear HB; have HB := n9_; clear n9_; have BK1 := Aside0.mk hbox; clear hbox hg hb)
    | ((with_reducible refine gate_dst (N := 2) rfl ?_); refine box_event ?hg (N := 2) ?hd (cs := #[.int .i64 0, .int .i64 0, .int .i64 0, .int .i64 0, .int .i64 0, .int .i64 0, .string ⟨#[]⟩, .slice none 0 0]) (t := 49) ?hr ?_; (case hd => rfl); (case hg => rfl); (case hr => first | (go_simp; done) | (go_simp; rfl)); intro b2 hg w2 hbox hb; have GE2 := Aside0.mk (show w.heap.size ≤ b2 by rw [hg]; exact below_size HB.out); have n1_ := Aside0.mk (blk_below BK1.out hb); have NE1_2 := Aside0.mk (show b1 ≠ b2 by rw [hg]; exact Nat.ne_of_lt (blk_lt BK1.out)); clear BK1; have BK1 := n1_; clear n1_; have n9_ := Aside0.mk (below_step HB.out hb); clear HB; have HB := n9_; clear n9_; have BK2 := Aside0.mk hbox; clear hbox hg hb)
    | ((with_reducible refine gate_dst (N := 3) rfl ?_); refine box_event ?hg (N := 3) ?hd (cs := #[.int .i64 0, .int .i64 0, .int .i64 0, .int .i64 0, .int .i64 0, .int .i64 0, .string ⟨#[]⟩, .slice none 0 0]) (t := 49) ?hr ?_; (case hd => rfl); (case hg => rfl); (case hr => first | (go_simp; done) | (go_simp; rfl)); intro b3 hg w3 hbox hb; have GE3 := Aside0.mk (show w.heap.size ≤ b3 by rw [hg]; exact below_size HB.out); have n1_ := Aside0.mk (blk_below BK1.out hb); have NE1_3 := Aside0.mk (show b1 ≠ b3 by rw [hg]; exact Nat.ne_of_lt (blk_lt BK1.out)); clear BK1; have BK1 := n1_; clear n1_; have n2_ := Aside0.mk (blk_below BK2.out hb); have NE2_3 := Aside0.mk (show b2 ≠ b3 by rw [hg]; exact Nat.ne_of_lt (blk_lt BK2.out)); clear BK2; have BK2 := n2_; clear n2_; have n9_ := Aside0.mk (below_step HB.out hb); clear HB; have HB := n9_; clear n9_; have BK3 := Aside0.mk hbox; clear hbox hg hb; have hne := NE1_3.out; have hne2 := NE1_3.out.symm; have hs0_w3 := (show w3.cell? ⟨b1, 0, none⟩ = some (.int .i64 x.f0) from (blk_cell BK1.out 0).trans rfl); have hs1_w3 := (show w3.cell? ⟨b1, 1, none⟩ = some (.int .i64 x.f1) from (blk_cell BK1.out 1).trans rfl); have hs2_w3 := (show w3.cell? ⟨b1, 2, none⟩ = some (.int .i64 x.f2) from (blk_cell BK1.out 2).trans rfl); have hs3_w3 := (show w3.cell? ⟨b1, 3, none⟩ = some (.int .i64 x.f3) from (blk_cell BK1.out 3).trans rfl); have hs4_w3 := (show w3.cell? ⟨b1, 4, none⟩ = some (.int .i64 x.f4.f0) from (blk_cell BK1.out 4).trans rfl); have hs5_w3 := (show w3.cell? ⟨b1, 5, none⟩ = some (.int .i64 x.f4.f1) from (blk_cell BK1.out 5).trans rfl); have hs6_w3 := (show w3.cell? ⟨b1, 6, none⟩ = some (.string x.f4.f2) from (blk_cell BK1.out 6).trans rfl); have hc0_w3 := (show w3.cell? ⟨b3, 0, none⟩ = some (.int .i64 0) from (blk_cell BK3.out 0).trans rfl); have hc1_w3 := (show w3.cell? ⟨b3, 1, none⟩ = some (.int .i64 0) from (blk_cell BK3.out 1).trans rfl); have hc2_w3 := (show w3.cell? ⟨b3, 2, none⟩ = some (.int .i64 0) from (blk_cell BK3.out 2).trans rfl); have hc3_w3 := (show w3.cell? ⟨b3, 3, none⟩ = some (.int .i64 0) from (blk_cell BK3.out 3).trans rfl); have hf0_w3 := (show w3.frozen? ⟨b3, 0, none⟩ = false from blk_frozen BK3.out 0); have hf1_w3 := (show w3.frozen? ⟨b3, 1, none⟩ = false from blk_frozen BK3.out 1); have hf2_w3 := (show w3.frozen? ⟨b3, 2, none⟩ = false from blk_frozen BK3.out 2); have hf3_w3 := (show w3.frozen? ⟨b3, 3, none⟩ = false from blk_frozen BK3.out 3); have n0_ := Aside0.mk (show Below w.heap.size w ((((w3.setCell ⟨b3, 0, none⟩ (.int .i64 x.f0)).setCell ⟨b3, 1, none⟩ (.int .i64 x.f1)).setCell ⟨b3, 2, none⟩ (.int .i64 x.f2)).setCell ⟨b3, 3, none⟩ (.int .i64 x.f3)) from (below_set (below_set (below_set (below_set HB.out GE3.out) GE3.out) GE3.out) GE3.out)); have n1_ := Aside0.mk (show ((((w3.setCell ⟨b3, 0, none⟩ (.int .i64 x.f0)).setCell ⟨b3, 1, none⟩ (.int .i64 x.f1)).setCell ⟨b3, 2, none⟩ (.int .i64 x.f2)).setCell ⟨b3, 3, none⟩ (.int .i64 x.f3)).heap[b1]? = _ from (blk_far (blk_far (blk_far (blk_far BK1.out NE1_3.out _) NE1_3.out _) NE1_3.out _) NE1_3.out _)); have n2_ := Aside0.mk (show ((((w3.setCell ⟨b3, 0, none⟩ (.int .i64 x.f0)).setCell ⟨b3, 1, none⟩ (.int .i64 x.f1)).setCell ⟨b3, 2, none⟩ (.int .i64 x.f2)).setCell ⟨b3, 3, none⟩ (.int .i64 x.f3)).heap[b2]? = _ from (blk_far (blk_far (blk_far (blk_far BK2.out NE2_3.out _) NE2_3.out _) NE2_3.out _) NE2_3.out _)); have n3_ : Aside0 (((((w3.setCell ⟨b3, 0, none⟩ (.int .i64 x.f0)).setCell ⟨b3, 1, none⟩ (.int .i64 x.f1)).setCell ⟨b3, 2, none⟩ (.int .i64 x.f2)).setCell ⟨b3, 3, none⟩ (.int .i64 x.f3)).heap[b3]? = some (.cells #[.int .i64 x.f0, .int .i64 x.f1, .int .i64 x.f2, .int .i64 x.f3, .int .i64 0, .int .i64 0, .string ⟨#[]⟩, .slice none 0 0] 49 (0, 0))) := ⟨(blk_list (blk_list (blk_list (blk_list BK3.out 0 _) 1 _) 2 _) 3 _)⟩; clear HB BK1 BK2 BK3; have HB := n0_; have BK1 := n1_; have BK2 := n2_; have BK3 := n3_; clear n0_ n1_ n2_ n3_)
    | (go_at_call 61; have t_ := tok0; clear t_; (with_reducible refine (to61 x.f4 _ SM4.out).mono ?_); rintro e v0 ⟨rfl, hb⟩; have n0_ := Aside0.mk (below_step HB.out hb); have m1_ := Aside0.mk (blk_below BK1.out hb); have m2_ := Aside0.mk (blk_below BK2.out hb); have m3_ := Aside0.mk (blk_below BK3.out hb); clear HB BK1 BK2 BK3 hb; have HB := n0_; have BK1 := m1_; have BK2 := m2_; have BK3 := m3_; clear n0_ m1_ m2_ m3_; clear hne hne2 hs0_w3 hs1_w3 hs2_w3 hs3_w3 hs4_w3 hs5_w3 hs6_w3 hc0_w3 hc1_w3 hc2_w3 hc3_w3 hf0_w3 hf1_w3 hf2_w3 hf3_w3; have hne := NE1_3.out; have hne2 := NE1_3.out.symm; have hs7_v0 := (show v0.cell? ⟨b1, 7, none⟩ = some (.slice A7 x.f5.length c7) from (blk_cell BK1.out 7).trans rfl); have hc4_v0 := (show v0.cell? ⟨b3, 4, none⟩ = some (.int .i64 0) from (blk_cell BK3.out 4).trans rfl); have hc5_v0 := (show v0.cell? ⟨b3, 5, none⟩ = some (.int .i64 0) from (blk_cell BK3.out 5).trans rfl); have hc6_v0 := (show v0.cell? ⟨b3, 6, none⟩ = some (.string ⟨#[]⟩) from (blk_cell BK3.out 6).trans rfl); have hf4_v0 := (show v0.frozen? ⟨b3, 4, none⟩ = false from blk_frozen BK3.out 4); have hf5_v0 := (show v0.frozen? ⟨b3, 5, none⟩ = false from blk_frozen BK3.out 5); have hf6_v0 := (show v0.frozen? ⟨b3, 6, none⟩ = false from blk_frozen BK3.out 6); have n0_ := Aside0.mk (show Below w.heap.size w (((v0.setCell ⟨b3, 4, none⟩ (.int .i64 x.f4.f0)).setCell ⟨b3, 5, none⟩ (.int .i64 x.f4.f1)).setCell ⟨b3, 6, none⟩ (.string x.f4.f2)) from (below_set (below_set (below_set HB.out GE3.out) GE3.out) GE3.out)); have n1_ := Aside0.mk (show (((v0.setCell ⟨b3, 4, none⟩ (.int .i64 x.f4.f0)).setCell ⟨b3, 5, none⟩ (.int .i64 x.f4.f1)).setCell ⟨b3, 6, none⟩ (.string x.f4.f2)).heap[b1]? = _ from (blk_far (blk_far (blk_far BK1.out NE1_3.out _) NE1_3.out _) NE1_3.out _)); have n2_ := Aside0.mk (show (((v0.setCell ⟨b3, 4, none⟩ (.int .i64 x.f4.f0)).setCell ⟨b3, 5, none⟩ (.int .i64 x.f4.f1)).setCell ⟨b3, 6, none⟩ (.string x.f4.f2)).heap[b2]? = _ from (blk_far (blk_far (blk_far BK2.out NE2_3.out _) NE2_3.out _) NE2_3.out _)); have n3_ : Aside0 ((((v0.setCell ⟨b3, 4, none⟩ (.int .i64 x.f4.f0)).setCell ⟨b3, 5, none⟩ (.int .i64 x.f4.f1)).setCell ⟨b3, 6, none⟩ (.string x.f4.f2)).heap[b3]? = some (.cells #[.int .i64 x.f0, .int .i64 x.f1, .int .i64 x.f2, .int .i64 x.f3, .int .i64 x.f4.f0, .int .i64 x.f4.f1, .string x.f4.f2, .slice none 0 0] 49 (0, 0))) := ⟨(blk_list (blk_list (blk_list BK3.out 4 _) 5 _) 6 _)⟩; clear HB BK1 BK2 BK3; have HB := n0_; have BK1 := n1_; have BK2 := n2_; have BK3 := n3_; clear n0_ n1_ n2_ n3_; clear tok0)
    | (go_at_call 33; have t_ := tok1; clear t_; (with_reducible refine (to33 x.f5 A7 c7 _ (Kd.C_below G7.out HB.out) L7.out SM5.out).mono ?_); rintro e v1 ⟨B7, d7, rfl, hr, hb⟩; have n0_ := Aside0.mk (below_step HB.out hb); have m1_ := Aside0.mk (blk_below BK1.out hb); have m2_ := Aside0.mk (blk_below BK2.out hb); have m3_ := Aside0.mk (blk_below BK3.out hb); have r7_ := Aside0.mk (Kd.R_lower (R_not2 hr (blk_lt BK3.out) (blk_lt BK2.out)) (below_size HB.out)); clear hr; clear HB BK1 BK2 BK3 hb; have HB := n0_; have BK1 := m1_; have BK2 := m2_; have BK3 := m3_; have HO7 := r7_; clear n0_ m1_ m2_ m3_ r7_; clear hne hne2 hs7_v0 hc4_v0 hc5_v0 hc6_v0 hf4_v0 hf5_v0 hf6_v0; have hne := NE1_3.out; have hne2 := NE1_3.out.symm; have hf7_v1 := (show v1.frozen? ⟨b3, 7, none⟩ = false from blk_frozen BK3.out 7); have hc0_v1 := (show v1.cell? ⟨b3, 0, none⟩ = some (.int .i64 x.f0) from (blk_cell BK3.out 0).trans rfl); have hc1_v1 := (show v1.cell? ⟨b3, 1, none⟩ = some (.int .i64 x.f1) from (blk_cell BK3.out 1).trans rfl); have hc2_v1 := (show v1.cell? ⟨b3, 2, none⟩ = some (.int .i64 x.f2) from (blk_cell BK3.out 2).trans rfl); have hc3_v1 := (show v1.cell? ⟨b3, 3, none⟩ = some (.int .i64 x.f3) from (blk_cell BK3.out 3).trans rfl); have hc4_v1 := (show v1.cell? ⟨b3, 4, none⟩ = some (.int .i64 x.f4.f0) from (blk_cell BK3.out 4).trans rfl); have hc5_v1 := (show v1.cell? ⟨b3, 5, none⟩ = some (.int .i64 x.f4.f1) from (blk_cell BK3.out 5).trans rfl); have hc6_v1 := (show v1.cell? ⟨b3, 6, none⟩ = some (.string x.f4.f2) from (blk_cell BK3.out 6).trans rfl); have hc7_v1 := (show v1.cell? ⟨b3, 7, none⟩ = some (.slice none 0 0) from (blk_cell BK3.out 7).trans rfl); have hz0_v1 := (show v1.cell? ⟨b2, 0, none⟩ = some (.int .i64 0) from (blk_cell BK2.out 0).trans rfl); have hz1_v1 := (show v1.cell? ⟨b2, 1, none⟩ = some (.int .i64 0) from (blk_cell BK2.out 1).trans rfl); have hz2_v1 := (show v1.cell? ⟨b2, 2, none⟩ = some (.int .i64 0) from (blk_cell BK2.out 2).trans rfl); have hz3_v1 := (show v1.cell? ⟨b2, 3, none⟩ = some (.int .i64 0) from (blk_cell BK2.out 3).trans rfl); have hz4_v1 := (show v1.cell? ⟨b2, 4, none⟩ = some (.int .i64 0) from (blk_cell BK2.out 4).trans rfl); have hz5_v1 := (show v1.cell? ⟨b2, 5, none⟩ = some (.int .i64 0) from (blk_cell BK2.out 5).trans rfl); have hz6_v1 := (show v1.cell? ⟨b2, 6, none⟩ = some (.string ⟨#[]⟩) from (blk_cell BK2.out 6).trans rfl); have hz7_v1 := (show v1.cell? ⟨b2, 7, none⟩ = some (.slice none 0 0) from (blk_cell BK2.out 7).trans rfl); have hg0_v1 := (show v1.frozen? ⟨b2, 0, none⟩ = false from blk_frozen BK2.out 0); have hg1_v1 := (show v1.frozen? ⟨b2, 1, none⟩ = false from blk_frozen BK2.out 1); have hg2_v1 := (show v1.frozen? ⟨b2, 2, none⟩ = false from blk_frozen BK2.out 2); have hg3_v1 := (show v1.frozen? ⟨b2, 3, none⟩ = false from blk_frozen BK2.out 3); have hg4_v1 := (show v1.frozen? ⟨b2, 4, none⟩ = false from blk_frozen BK2.out 4); have hg5_v1 := (show v1.frozen? ⟨b2, 5, none⟩ = false from blk_frozen BK2.out 5); have hg6_v1 := (show v1.frozen? ⟨b2, 6, none⟩ = false from blk_frozen BK2.out 6); have hg7_v1 := (show v1.frozen? ⟨b2, 7, none⟩ = false from blk_frozen BK2.out 7); have hn3 := NE2_3.out; have hn4 := NE2_3.out.symm; have n0_ := Aside0.mk (show Below w.heap.size w (v1.setCell ⟨b3, 7, none⟩ (.slice B7 x.f5.length d7)) from (below_set HB.out GE3.out)); have n1_ := Aside0.mk (show (v1.setCell ⟨b3, 7, none⟩ (.slice B7 x.f5.length d7)).heap[b1]? = _ from (blk_far BK1.out NE1_3.out _)); have n2_ := Aside0.mk (show (v1.setCell ⟨b3, 7, none⟩ (.slice B7 x.f5.length d7)).heap[b2]? = _ from (blk_far BK2.out NE2_3.out _)); have n3_ : Aside0 ((v1.setCell ⟨b3, 7, none⟩ (.slice B7 x.f5.length d7)).heap[b3]? = some (.cells #[.int .i64 x.f0, .int .i64 x.f1, .int .i64 x.f2, .int .i64 x.f3, .int .i64 x.f4.f0, .int .i64 x.f4.f1, .string x.f4.f2, .slice B7 x.f5.length d7] 49 (0, 0))) := ⟨(blk_list BK3.out 7 _)⟩; have m7_ := Aside0.mk (show Kd.R (Kd.int .i64) 3 (v1.setCell ⟨b3, 7, none⟩ (.slice B7 x.f5.length d7)) _ _ _ _ from (Kd.R_far (p := ⟨b3, _, none⟩) HO7.out (fun k hk => hk.1) _)); clear HB BK1 BK2 BK3 HO7; have HB := n0_; have BK1 := n1_; have BK2 := n2_; have BK3 := n3_; have HO7 := m7_; clear n0_ n1_ n2_ n3_ m7_; clear tok1))
  refine bodyPost_ret (results_cell_row rfl _ _ b2 49 #[.int .i64 x.f0, .int .i64 x.f1, .int .i64 x.f2, .int .i64 x.f3, .int .i64 x.f4.f0, .int .i64 x.f4.f1, .string x.f4.f2, .slice B7 x.f5.length d7] (0, 0) _ rfl (blk_list (blk_list (blk_list (blk_list (blk_list (blk_list (blk_list (blk_list BK2.out 0 _) 1 _) 2 _) 3 _) 4 _) 5 _) 6 _) 7 _) Try.underlying49 rfl (by kernel_rfl)) rfl ?_
  exact ⟨B7, d7, rfl, Kd.R_mono (Kd.R_far (p := ⟨b2, _, none⟩) (Kd.R_far (p := ⟨b2, _, none⟩) (Kd.R_far (p := ⟨b2, _, none⟩) (Kd.R_far (p := ⟨b2, _, none⟩) (Kd.R_far (p := ⟨b2, _, none⟩) (Kd.R_far (p := ⟨b2, _, none⟩) (Kd.R_far (p := ⟨b2, _, none⟩) (Kd.R_far (p := ⟨b2, _, none⟩) HO7.out (fun k hk => hk.2) _) (fun k hk => hk.2) _) (fun k hk => hk.2) _) (fun k hk => hk.2) _) (fun k hk => hk.2) _) (fun k hk => hk.2) _) (fun k hk => hk.2) _) (fun k hk => hk.2) _) (fun _ _ => trivial), (below_set (below_set (below_set (below_set (below_set (below_set (below_set (below_set HB.out GE2.out) GE2.out) GE2.out) GE2.out) GE2.out) GE2.out) GE2.out) GE2.out)⟩
def smL104 (l : List S104) : Prop := l.length ≤ 1048576 ∧ ∀ j, sm104 (l.getD j z104)
theorem cv104_at (l : List S104) (j : Nat) (h : j < l.length) : (l.map cv104).getD j z49 = cv104 (l.getD j z104) := by simp [List.getD, h]
set_option maxHeartbeats 4000000 in
set_option maxRecDepth 100000 in
theorem to55 (l : List S104) (A0 : Option Addr) (c0 : Nat) (w : World) (hr : Kd.C k104 w A0 l.length l) (hc : l.length ≤ c0) (hs : smL104 l) :
    Calls Try.prog 55 #[.slice A0 l.length c0] w fun e w' => ∃ (A : Option Addr) (c : Nat), e = .returned (.slice A l.length c) ∧ Kd.R k49 49 w' w.heap.size (fun _ => True) (.slice A l.length c) (l.map cv104) ∧ Below w.heap.size w w' := by
  have hl : l.length ≤ 1048576 := hs.1
  have HLL := Aside0.mk hl
  have HS := Aside0.mk hs
  have HR := Aside0.mk hr
  have h00 : 0 ≤ (l.length : Int) := by omega
  clear hr hs hl
  have HB := Aside0.mk (Below.refl w.heap.size w)
  go_enter Try.func55, Try.ntmps55
  go_wp2_with (first | ((with_reducible refine gate_dst (N := 7) rfl ?_); refine Kd.R_make k49 _ 49 rfl (N := 7) rfl 42 _ _ rfl (l.length : Int) rfl rfl Try.underlying42 (.agg #[(.int .i64 0), (.int .i64 0), (.int .i64 0), (.int .i64 0), (.int .i64 0), (.int .i64 0), (.string ⟨#[]⟩), (.slice none 0 0)]) 88 info49 rfl (by decide) (by decide) z49 (ok := fun _ => True) (okp := fun _ => True) (k49_mkM _ _ _ z49 (Kd.R_nil _ _ _ _ _)) (fun _ hk => hk) trivial h00 (by have := HLL.out; simp only [Int.toNat_natCast]; omega) (Below.refl _ _) (Nat.le_refl _) ?_; intro vo w4 ho hb hg_ hn_; rw [Int.toNat_natCast] at ho; have HO := Aside0.mk (Kd.R_lower ho (below_size HB.out)); have n0_ := Aside0.mk (below_step HB.out hb); clear HB ho hb hg_ hn_; have HB := n0_; clear n0_))
  go_loopw [4] (fun v w' => ∃ (n i : Nat) (xs : List S49), v = .int .i64 (i : Int) ∧ Aside0 (i + n = l.length ∧ xs.length = l.length ∧ xs.take i = ((l.map cv104)).take i) ∧ Aside0 (Kd.R k49 49 w' w.heap.size (fun _ => True) vo xs) ∧ Aside0 (Below w.heap.size w w')) (fun v _ => l.length - (intOf v).toNat)
  case atStart => exact ⟨l.length, 0, _, rfl, ⟨by omega, List.length_replicate, rfl⟩, HO, HB⟩
  case round =>
    clear HO
    obtain ⟨n, i, xs, rfl, HI, HO, HB⟩ := hrel
    cases n with
    | zero =>
      have hlt : decide ((i : Int) < (l.length : Int)) = false := decide_eq_false (by have := HI.out; omega)
      have hlt2 : decide (i < l.length) = false := decide_eq_false (by have := HI.out; omega)
      have HE := Aside0.mk (show xs = (l.map cv104) by have h := HI.out; rw [← List.take_of_length_le (show xs.length ≤ i by omega), h.2.2, List.take_of_length_le (by first | omega | (rw [List.length_map]; omega))])
      have HO2 : Aside0 (Kd.R k49 49 wr w.heap.size (fun _ => True) vo (l.map cv104)) := ⟨HE.out ▸ HO.out⟩
      obtain ⟨A, c, e9⟩ := Kd.R_slice HO2.out
      replace e9 : vo = .slice A l.length c := e9.trans (by first | rfl | simp)
      go_wp2
      go_ret
      exact ⟨A, c, congrArg Ending.returned e9, e9 ▸ HO2.out, HB.out⟩
    | succ n =>
      have hlt : decide ((i : Int) < (l.length : Int)) = true := decide_eq_true (by have := HI.out; omega)
      have hlt2 : decide (i < l.length) = true := decide_eq_true (by have := HI.out; omega)
      have q0 : (0 : Int) ≤ (i : Int) := by omega
      have q1 : (i : Int) < (l.length : Int) := by have := HI.out; omega
      have q2 : (i < l.length) = True := eq_true (by have := HI.out; omega)
      have HW := Aside0.mk (show wrap64 ((i : Int) + 1) = ((i + 1 : Nat) : Int) by have := HI.out; have := HLL.out; unfold wrap64; omega)
      have HL := Aside0.mk (show i < l.length by have := HI.out; omega)
      obtain ⟨g, cap, e9, hge, hlt9, _⟩ := Kd.R_form HO.out (by have := HI.out; omega)
      rw [HI.out.2.1] at e9
      subst e9
      have GE := Aside0.mk hge
      have GL := Aside0.mk hlt9
      clear hge hlt9
      obtain ⟨ad, A7, c7, ea, hx0, hx1, hx2, hx3, hx4, hx5, hx6, hx7, l7, g7⟩ := at_T104 (Kd.C_below HR.out HB.out) (i : Int) q0 q1
      subst ea
      simp only [Int.toNat_natCast] at hx0 hx1 hx2 hx3 hx4 hx5 hx6 hx7
      obtain ⟨x, hX⟩ : ∃ x, rd_T104 l (i : Int) = x := ⟨_, rfl⟩
      rw [hX] at hx0 hx1 hx2 hx3 hx4 hx5 hx6 hx7
      simp only [hX] at g7 l7
      have G7 := Aside0.mk g7
      have L7 := Aside0.mk l7
      have HXX := Aside0.mk (show l.getD i z104 = x from hX)
      have HSX := Aside0.mk (show sm104 x by rw [← HXX.out]; exact HS.out.2 i)
      clear hX g7 l7
      replace q0 := eq_true q0
      replace q1 := eq_true q1
      go_wp2_with (first
        | (go_at_call 58; (with_reducible refine (to58 x A7 c7 _ G7.out L7.out HSX.out).mono ?_); rintro e w9 ⟨B7, d7, rfl, r7, hb⟩; have r7_ := Aside0.mk (Kd.R_lower (R_not1 r7 GL.out) (below_size HB.out)); have n0_ := Aside0.mk (below_step HB.out hb); have n1_ := Aside0.mk (Kd.R_below HO.out hb); clear HB HO hb r7; have HB := n0_; have HO := n1_; clear n0_ n1_; obtain ⟨co, hcl, _, hcc, hfr⟩ := Kd.R_elem HO.out z49 (i : Int) (of_eq_true q0) (by have := HL.out; omega); obtain ⟨y0, y1, y2, y3, y4, y5, y6, y7, rfl⟩ := list_8 co hcl; have HCL := Aside0.mk hcl; have HCC := Aside0.mk hcc; clear hcl hcc hfr)
        | ((with_reducible refine gate_store (t := 49) (p := 21) rfl ?_); refine Kd.R_store k49 (w0 := w) w.heap.size rfl rfl 49 (.tmp 21) (.tmp 20) rfl 49 (i : Int) 0 xs (cv104 x) _ [.int .i64 x.f0, .int .i64 x.f1, .int .i64 x.f2, .int .i64 x.f3, .int .i64 x.f4.f0, .int .i64 x.f4.f1, .string x.f4.f2, .slice B7 x.f5.length d7] [y0, y1, y2, y3, y4, y5, y6, y7] (fun _ => True) (fun k => k ≠ g) rfl ?h1 rfl rfl (by kernel_rfl) (by simp [Value.oneCell']) HO.out (of_eq_true q0) (by have := HL.out; omega) HCL.out HCC.out (show 0 + 8 ≤ 8 by decide) (k49_mkM w9 w.heap.size (fun k => k ≠ g) (cv104 x) r7_.out) (fun k hk => ⟨trivial, hk⟩) HB.out ?_; (case h1 => first | rfl | simp [show (k49).sz = 1 from rfl]); intro w10 ho hb hg; have n0_ := Aside0.mk ho; have n1_ := Aside0.mk hb; clear HO HB ho hb hg; have HO := n0_; have HB := n1_; clear n0_ n1_; rw [Int.toNat_natCast] at HO))
      have HX := Aside0.mk (show (xs.set i (cv104 x)).take (i + 1) = ((l.map cv104)).take (i + 1) from take_set_step xs ((l.map cv104)) i (by have := HI.out; omega) (by first | exact HL.out | (rw [List.length_map]; exact HL.out)) HI.out.2.2 _ _ ((cv104_at l i HL.out).trans (congrArg cv104 HXX.out)))
      go_roundw
      case rel => exact ⟨n, i + 1, xs.set i (cv104 x), congrArg (Value.int .i64) HW.out, ⟨by have := HI.out; omega, by rw [List.length_set]; exact HI.out.2.1, HX.out⟩, HO, HB⟩
      case measure => rw [HW.out]; have := HL.out; show l.length - ((i + 1 : Nat) : Int).toNat < l.length - ((i : Nat) : Int).toNat; omega
def cv87 (x : S87) : S44 := ⟨(x.f0.map cv104)⟩
def sm87 (x : S87) : Prop := smL104 x.f0 ∧ True
set_option maxHeartbeats 4000000 in
set_option maxRecDepth 100000 in
theorem to48 (x : S87) (A0 : Option Addr) (c0 : Nat) (w : World) (g0 : Kd.C k104 w A0 x.f0.length x.f0) (l0 : x.f0.length ≤ c0) (hs : sm87 x) :
    Calls Try.prog 48 #[.agg #[.slice A0 x.f0.length c0]] w fun e w' => ∃ (B0 : Option Addr) (d0 : Nat), e = .returned (.agg #[.slice B0 x.f0.length d0]) ∧ Kd.R k49 49 w' w.heap.size (fun _ => True) (.slice B0 x.f0.length d0) (x.f0.map cv104) ∧ Below w.heap.size w w' := by
  have hu := Try.underlying87
  have hv := Try.underlying44
  have G0 := Aside0.mk g0
  have L0 := Aside0.mk l0
  obtain ⟨s0, _⟩ := hs
  have SM0 := Aside0.mk s0
  clear g0 l0 s0
  have HB := Aside0.mk (Below.refl w.heap.size w)
  go_enter Try.func48, Try.ntmps48
  have tok0 : True := trivial
  go_wp2_with (first
    | ((with_reducible refine gate_dst (N := 1) rfl ?_); refine box_event ?hg (N := 1) ?hd (cs := #[.slice A0 x.f0.length c0]) (t := 87) ?hr ?_; (case hd => rfl); (case hg => rfl); (case hr => first | (go_simp; done) | (go_simp; rfl)); intro b1 hg w1 hbox hb; have GE1 := Aside0.mk (show w.heap.size ≤ b1 by rw [hg]; exact below_size HB.out); have n9_ := Aside0.mk (below_step HB.out hb); clear HB; have HB := n9_; clear n9_; have BK1 := Aside0.mk hbox; clear hbox hg hb)
    | ((with_reducible refine gate_dst (N := 2) rfl ?_); refine box_event ?hg (N := 2) ?hd (cs := #[.slice none 0 0]) (t := 44) ?hr ?_; (case hd => rfl); (case hg => rfl); (case hr => first | (go_simp; done) | (go_simp; rfl)); intro b2 hg w2 hbox hb; have GE2 := Aside0.mk (show w.heap.size ≤ b2 by rw [hg]; exact below_size HB.out); have n1_ := Aside0.mk (blk_below BK1.out hb); have NE1_2 := Aside0.mk (show b1 ≠ b2 by rw [hg]; exact Nat.ne_of_lt (blk_lt BK1.out)); clear BK1; have BK1 := n1_; clear n1_; have n9_ := Aside0.mk (below_step HB.out hb); clear HB; have HB := n9_; clear n9_; have BK2 := Aside0.mk hbox; clear hbox hg hb)
    | ((with_reducible refine gate_dst (N := 3) rfl ?_); refine box_event ?hg (N := 3) ?hd (cs := #[.slice none 0 0]) (t := 44) ?hr ?_; (case hd => rfl); (case hg => rfl); (case hr => first | (go_simp; done) | (go_simp; rfl)); intro b3 hg w3 hbox hb; have GE3 := Aside0.mk (show w.heap.size ≤ b3 by rw [hg]; exact below_size HB.out); have n1_ := Aside0.mk (blk_below BK1.out hb); have NE1_3 := Aside0.mk (show b1 ≠ b3 by rw [hg]; exact Nat.ne_of_lt (blk_lt BK1.out)); clear BK1; have BK1 := n1_; clear n1_; have n2_ := Aside0.mk (blk_below BK2.out hb); have NE2_3 := Aside0.mk (show b2 ≠ b3 by rw [hg]; exact Nat.ne_of_lt (blk_lt BK2.out)); clear BK2; have BK2 := n2_; clear n2_; have n9_ := Aside0.mk (below_step HB.out hb); clear HB; have HB := n9_; clear n9_; have BK3 := Aside0.mk hbox; clear hbox hg hb; have hne := NE1_3.out; have hne2 := NE1_3.out.symm; have hs0_w3 := (show w3.cell? ⟨b1, 0, none⟩ = some (.slice A0 x.f0.length c0) from (blk_cell BK1.out 0).trans rfl))
    | (go_at_call 55; have t_ := tok0; clear t_; (with_reducible refine (to55 x.f0 A0 c0 _ (Kd.C_below G0.out HB.out) L0.out SM0.out).mono ?_); rintro e v0 ⟨B0, d0, rfl, hr, hb⟩; have n0_ := Aside0.mk (below_step HB.out hb); have m1_ := Aside0.mk (blk_below BK1.out hb); have m2_ := Aside0.mk (blk_below BK2.out hb); have m3_ := Aside0.mk (blk_below BK3.out hb); have r0_ := Aside0.mk (Kd.R_lower (R_not2 hr (blk_lt BK3.out) (blk_lt BK2.out)) (below_size HB.out)); clear hr; clear HB BK1 BK2 BK3 hb; have HB := n0_; have BK1 := m1_; have BK2 := m2_; have BK3 := m3_; have HO0 := r0_; clear n0_ m1_ m2_ m3_ r0_; clear hne hne2 hs0_w3; have hne := NE1_3.out; have hne2 := NE1_3.out.symm; have hf0_v0 := (show v0.frozen? ⟨b3, 0, none⟩ = false from blk_frozen BK3.out 0); have hc0_v0 := (show v0.cell? ⟨b3, 0, none⟩ = some (.slice none 0 0) from (blk_cell BK3.out 0).trans rfl); have hz0_v0 := (show v0.cell? ⟨b2, 0, none⟩ = some (.slice none 0 0) from (blk_cell BK2.out 0).trans rfl); have hg0_v0 := (show v0.frozen? ⟨b2, 0, none⟩ = false from blk_frozen BK2.out 0); have hn3 := NE2_3.out; have hn4 := NE2_3.out.symm; have n0_ := Aside0.mk (show Below w.heap.size w (v0.setCell ⟨b3, 0, none⟩ (.slice B0 x.f0.length d0)) from (below_set HB.out GE3.out)); have n1_ := Aside0.mk (show (v0.setCell ⟨b3, 0, none⟩ (.slice B0 x.f0.length d0)).heap[b1]? = _ from (blk_far BK1.out NE1_3.out _)); have n2_ := Aside0.mk (show (v0.setCell ⟨b3, 0, none⟩ (.slice B0 x.f0.length d0)).heap[b2]? = _ from (blk_far BK2.out NE2_3.out _)); have n3_ : Aside0 ((v0.setCell ⟨b3, 0, none⟩ (.slice B0 x.f0.length d0)).heap[b3]? = some (.cells #[.slice B0 x.f0.length d0] 44 (0, 0))) := ⟨(blk_list BK3.out 0 _)⟩; have m0_ := Aside0.mk (show Kd.R k49 49 (v0.setCell ⟨b3, 0, none⟩ (.slice B0 x.f0.length d0)) _ _ _ _ from (Kd.R_far (p := ⟨b3, _, none⟩) HO0.out (fun k hk => hk.1) _)); clear HB BK1 BK2 BK3 HO0; have HB := n0_; have BK1 := n1_; have BK2 := n2_; have BK3 := n3_; have HO0 := m0_; clear n0_ n1_ n2_ n3_ m0_; clear tok0))
  refine bodyPost_ret (results_cell_row rfl _ _ b2 44 #[.slice B0 x.f0.length d0] (0, 0) _ rfl (blk_list BK2.out 0 _) Try.underlying44 rfl (by kernel_rfl)) rfl ?_
  exact ⟨B0, d0, rfl, Kd.R_mono (Kd.R_far (p := ⟨b2, _, none⟩) HO0.out (fun k hk => hk.2) _) (fun _ _ => trivial), (below_set HB.out GE2.out)⟩
def smL87 (l : List S87) : Prop := l.length ≤ 1048576 ∧ ∀ j, sm87 (l.getD j z87)
theorem cv87_at (l : List S87) (j : Nat) (h : j < l.length) : (l.map cv87).getD j z44 = cv87 (l.getD j z87) := by simp [List.getD, h]
set_option maxHeartbeats 4000000 in
set_option maxRecDepth 100000 in
theorem to32 (l : List S87) (A0 : Option Addr) (c0 : Nat) (w : World) (hr : Kd.C k87 w A0 l.length l) (hc : l.length ≤ c0) (hs : smL87 l) :
    Calls Try.prog 32 #[.slice A0 l.length c0] w fun e w' => ∃ (A : Option Addr) (c : Nat), e = .returned (.slice A l.length c) ∧ Kd.R k44 44 w' w.heap.size (fun _ => True) (.slice A l.length c) (l.map cv87) ∧ Below w.heap.size w w' := by
  have hl : l.length ≤ 1048576 := hs.1
  have HLL := Aside0.mk hl
  have HS := Aside0.mk hs
  have HR := Aside0.mk hr
  have h00 : 0 ≤ (l.length : Int) := by omega
  clear hr hs hl
  have HB := Aside0.mk (Below.refl w.heap.size w)
  go_enter Try.func32, Try.ntmps32
  go_wp2_with (first | ((with_reducible refine gate_dst (N := 7) rfl ?_); refine Kd.R_make k44 _ 44 rfl (N := 7) rfl 34 _ _ rfl (l.length : Int) rfl rfl Try.underlying34 (.agg #[(.slice none 0 0)]) 24 info44 rfl (by decide) (by decide) z44 (ok := fun _ => True) (okp := fun _ => True) (k44_mkM _ _ _ z44 (Kd.R_nil _ _ _ _ _)) (fun _ hk => hk) trivial h00 (by have := HLL.out; simp only [Int.toNat_natCast]; omega) (Below.refl _ _) (Nat.le_refl _) ?_; intro vo w4 ho hb hg_ hn_; rw [Int.toNat_natCast] at ho; have HO := Aside0.mk (Kd.R_lower ho (below_size HB.out)); have n0_ := Aside0.mk (below_step HB.out hb); clear HB ho hb hg_ hn_; have HB := n0_; clear n0_))
  go_loopw [4] (fun v w' => ∃ (n i : Nat) (xs : List S44), v = .int .i64 (i : Int) ∧ Aside0 (i + n = l.length ∧ xs.length = l.length ∧ xs.take i = ((l.map cv87)).take i) ∧ Aside0 (Kd.R k44 44 w' w.heap.size (fun _ => True) vo xs) ∧ Aside0 (Below w.heap.size w w')) (fun v _ => l.length - (intOf v).toNat)
  case atStart => exact ⟨l.length, 0, _, rfl, ⟨by omega, List.length_replicate, rfl⟩, HO, HB⟩
  case round =>
    clear HO
    obtain ⟨n, i, xs, rfl, HI, HO, HB⟩ := hrel
    cases n with
    | zero =>
      have hlt : decide ((i : Int) < (l.length : Int)) = false := decide_eq_false (by have := HI.out; omega)
      have hlt2 : decide (i < l.length) = false := decide_eq_false (by have := HI.out; omega)
      have HE := Aside0.mk (show xs = (l.map cv87) by have h := HI.out; rw [← List.take_of_length_le (show xs.length ≤ i by omega), h.2.2, List.take_of_length_le (by first | omega | (rw [List.length_map]; omega))])
      have HO2 : Aside0 (Kd.R k44 44 wr w.heap.size (fun _ => True) vo (l.map cv87)) := ⟨HE.out ▸ HO.out⟩
      obtain ⟨A, c, e9⟩ := Kd.R_slice HO2.out
      replace e9 : vo = .slice A l.length c := e9.trans (by first | rfl | simp)
      go_wp2
      go_ret
      exact ⟨A, c, congrArg Ending.returned e9, e9 ▸ HO2.out, HB.out⟩
    | succ n =>
      have hlt : decide ((i : Int) < (l.length : Int)) = true := decide_eq_true (by have := HI.out; omega)
      have hlt2 : decide (i < l.length) = true := decide_eq_true (by have := HI.out; omega)
      have q0 : (0 : Int) ≤ (i : Int) := by omega
      have q1 : (i : Int) < (l.length : Int) := by have := HI.out; omega
      have q2 : (i < l.length) = True := eq_true (by have := HI.out; omega)
      have HW := Aside0.mk (show wrap64 ((i : Int) + 1) = ((i + 1 : Nat) : Int) by have := HI.out; have := HLL.out; unfold wrap64; omega)
      have HL := Aside0.mk (show i < l.length by have := HI.out; omega)
      obtain ⟨g, cap, e9, hge, hlt9, _⟩ := Kd.R_form HO.out (by have := HI.out; omega)
      rw [HI.out.2.1] at e9
      subst e9
      have GE := Aside0.mk hge
      have GL := Aside0.mk hlt9
      clear hge hlt9
      obtain ⟨ad, A0, c0, ea, hx0, l0, g0⟩ := at_T87 (Kd.C_below HR.out HB.out) (i : Int) q0 q1
      subst ea
      simp only [Int.toNat_natCast] at hx0
      obtain ⟨x, hX⟩ : ∃ x, rd_T87 l (i : Int) = x := ⟨_, rfl⟩
      rw [hX] at hx0
      simp only [hX] at g0 l0
      have G0 := Aside0.mk g0
      have L0 := Aside0.mk l0
      have HXX := Aside0.mk (show l.getD i z87 = x from hX)
      have HSX := Aside0.mk (show sm87 x by rw [← HXX.out]; exact HS.out.2 i)
      clear hX g0 l0
      replace q0 := eq_true q0
      replace q1 := eq_true q1
      go_wp2_with (first
        | (go_at_call 48; (with_reducible refine (to48 x A0 c0 _ G0.out L0.out HSX.out).mono ?_); rintro e w9 ⟨B0, d0, rfl, r0, hb⟩; have r0_ := Aside0.mk (Kd.R_lower (R_not1 r0 GL.out) (below_size HB.out)); have n0_ := Aside0.mk (below_step HB.out hb); have n1_ := Aside0.mk (Kd.R_below HO.out hb); clear HB HO hb r0; have HB := n0_; have HO := n1_; clear n0_ n1_; obtain ⟨co, hcl, _, hcc, hfr⟩ := Kd.R_elem HO.out z44 (i : Int) (of_eq_true q0) (by have := HL.out; omega); obtain ⟨y0, rfl⟩ := list_1 co hcl; have HCL := Aside0.mk hcl; have HCC := Aside0.mk hcc; clear hcl hcc hfr)
        | ((with_reducible refine gate_store (t := 44) (p := 21) rfl ?_); refine Kd.R_store k44 (w0 := w) w.heap.size rfl rfl 44 (.tmp 21) (.tmp 20) rfl 44 (i : Int) 0 xs (cv87 x) _ [.slice B0 x.f0.length d0] [y0] (fun _ => True) (fun k => k ≠ g) rfl ?h1 rfl rfl (by kernel_rfl) (by simp [Value.oneCell']) HO.out (of_eq_true q0) (by have := HL.out; omega) HCL.out HCC.out (show 0 + 1 ≤ 1 by decide) (k44_mkM w9 w.heap.size (fun k => k ≠ g) (cv87 x) r0_.out) (fun k hk => ⟨trivial, hk⟩) HB.out ?_; (case h1 => first | rfl | simp [show (k44).sz = 1 from rfl]); intro w10 ho hb hg; have n0_ := Aside0.mk ho; have n1_ := Aside0.mk hb; clear HO HB ho hb hg; have HO := n0_; have HB := n1_; clear n0_ n1_; rw [Int.toNat_natCast] at HO))
      have HX := Aside0.mk (show (xs.set i (cv87 x)).take (i + 1) = ((l.map cv87)).take (i + 1) from take_set_step xs ((l.map cv87)) i (by have := HI.out; omega) (by first | exact HL.out | (rw [List.length_map]; exact HL.out)) HI.out.2.2 _ _ ((cv87_at l i HL.out).trans (congrArg cv87 HXX.out)))
      go_roundw
      case rel => exact ⟨n, i + 1, xs.set i (cv87 x), congrArg (Value.int .i64) HW.out, ⟨by have := HI.out; omega, by rw [List.length_set]; exact HI.out.2.1, HX.out⟩, HO, HB⟩
      case measure => rw [HW.out]; have := HL.out; show l.length - ((i + 1 : Nat) : Int).toNat < l.length - ((i : Nat) : Int).toNat; omega
def cv90 (x : S90) : S53 := ⟨x.f0, x.f1, x.f2⟩
def sm90 (x : S90) : Prop := True
set_option maxHeartbeats 4000000 in
set_option maxRecDepth 100000 in
theorem to49 (x : S90) (w : World) (hs : sm90 x) :
    Calls Try.prog 49 #[.agg #[.int .i64 x.f0, .int .i64 x.f1, .bool x.f2]] w fun e w' => e = .returned (.agg #[.int .i64 x.f0, .int .i64 x.f1, .bool x.f2]) ∧ Below w.heap.size w w' := by
  have hu := Try.underlying90
  have hv := Try.underlying53
  clear hs
  have HB := Aside0.mk (Below.refl w.heap.size w)
  go_enter Try.func49, Try.ntmps49
  go_wp2_with (first
    | ((with_reducible refine gate_dst (N := 1) rfl ?_); refine box_event ?hg (N := 1) ?hd (cs := #[.int .i64 x.f0, .int .i64 x.f1, .bool x.f2]) (t := 90) ?hr ?_; (case hd => rfl); (case hg => rfl); (case hr => first | (go_simp; done) | (go_simp; rfl)); intro b1 hg w1 hbox hb; have GE1 := Aside0.mk (show w.heap.size ≤ b1 by rw [hg]; exact below_size HB.out); have n9_ := Aside0.mk (below_step HB.out hb); clear HB; have HB := n9_; clear n9_; have BK1 := Aside0.mk hbox; clear hbox hg hb)
    | ((with_reducible refine gate_dst (N := 2) rfl ?_); refine box_event ?hg (N := 2) ?hd (cs := #[.int .i64 0, .int .i64 0, .bool false]) (t := 53) ?hr ?_; (case hd => rfl); (case hg => rfl); (case hr => first | (go_simp; done) | (go_simp; rfl)); intro b2 hg w2 hbox hb; have GE2 := Aside0.mk (show w.heap.size ≤ b2 by rw [hg]; exact below_size HB.out); have n1_ := Aside0.mk (blk_below BK1.out hb); have NE1_2 := Aside0.mk (show b1 ≠ b2 by rw [hg]; exact Nat.ne_of_lt (blk_lt BK1.out)); clear BK1; have BK1 := n1_; clear n1_; have n9_ := Aside0.mk (below_step HB.out hb); clear HB; have HB := n9_; clear n9_; have BK2 := Aside0.mk hbox; clear hbox hg hb)
    | ((with_reducible refine gate_dst (N := 3) rfl ?_); refine box_event ?hg (N := 3) ?hd (cs := #[.int .i64 0, .int .i64 0, .bool false]) (t := 53) ?hr ?_; (case hd => rfl); (case hg => rfl); (case hr => first | (go_simp; done) | (go_simp; rfl)); intro b3 hg w3 hbox hb; have GE3 := Aside0.mk (show w.heap.size ≤ b3 by rw [hg]; exact below_size HB.out); have n1_ := Aside0.mk (blk_below BK1.out hb); have NE1_3 := Aside0.mk (show b1 ≠ b3 by rw [hg]; exact Nat.ne_of_lt (blk_lt BK1.out)); clear BK1; have BK1 := n1_; clear n1_; have n2_ := Aside0.mk (blk_below BK2.out hb); have NE2_3 := Aside0.mk (show b2 ≠ b3 by rw [hg]; exact Nat.ne_of_lt (blk_lt BK2.out)); clear BK2; have BK2 := n2_; clear n2_; have n9_ := Aside0.mk (below_step HB.out hb); clear HB; have HB := n9_; clear n9_; have BK3 := Aside0.mk hbox; clear hbox hg hb; have hne := NE1_3.out; have hne2 := NE1_3.out.symm; have hs0_w3 := (show w3.cell? ⟨b1, 0, none⟩ = some (.int .i64 x.f0) from (blk_cell BK1.out 0).trans rfl); have hs1_w3 := (show w3.cell? ⟨b1, 1, none⟩ = some (.int .i64 x.f1) from (blk_cell BK1.out 1).trans rfl); have hs2_w3 := (show w3.cell? ⟨b1, 2, none⟩ = some (.bool x.f2) from (blk_cell BK1.out 2).trans rfl); have hf0_w3 := (show w3.frozen? ⟨b3, 0, none⟩ = false from blk_frozen BK3.out 0); have hf1_w3 := (show w3.frozen? ⟨b3, 1, none⟩ = false from blk_frozen BK3.out 1); have hf2_w3 := (show w3.frozen? ⟨b3, 2, none⟩ = false from blk_frozen BK3.out 2); have hc0_w3 := (show w3.cell? ⟨b3, 0, none⟩ = some (.int .i64 0) from (blk_cell BK3.out 0).trans rfl); have hc1_w3 := (show w3.cell? ⟨b3, 1, none⟩ = some (.int .i64 0) from (blk_cell BK3.out 1).trans rfl); have hc2_w3 := (show w3.cell? ⟨b3, 2, none⟩ = some (.bool false) from (blk_cell BK3.out 2).trans rfl); have hz0_w3 := (show w3.cell? ⟨b2, 0, none⟩ = some (.int .i64 0) from (blk_cell BK2.out 0).trans rfl); have hz1_w3 := (show w3.cell? ⟨b2, 1, none⟩ = some (.int .i64 0) from (blk_cell BK2.out 1).trans rfl); have hz2_w3 := (show w3.cell? ⟨b2, 2, none⟩ = some (.bool false) from (blk_cell BK2.out 2).trans rfl); have hg0_w3 := (show w3.frozen? ⟨b2, 0, none⟩ = false from blk_frozen BK2.out 0); have hg1_w3 := (show w3.frozen? ⟨b2, 1, none⟩ = false from blk_frozen BK2.out 1); have hg2_w3 := (show w3.frozen? ⟨b2, 2, none⟩ = false from blk_frozen BK2.out 2); have hn3 := NE2_3.out; have hn4 := NE2_3.out.symm; have n0_ := Aside0.mk (show Below w.heap.size w (((w3.setCell ⟨b3, 0, none⟩ (.int .i64 x.f0)).setCell ⟨b3, 1, none⟩ (.int .i64 x.f1)).setCell ⟨b3, 2, none⟩ (.bool x.f2)) from (below_set (below_set (below_set HB.out GE3.out) GE3.out) GE3.out)); have n1_ := Aside0.mk (show (((w3.setCell ⟨b3, 0, none⟩ (.int .i64 x.f0)).setCell ⟨b3, 1, none⟩ (.int .i64 x.f1)).setCell ⟨b3, 2, none⟩ (.bool x.f2)).heap[b1]? = _ from (blk_far (blk_far (blk_far BK1.out NE1_3.out _) NE1_3.out _) NE1_3.out _)); have n2_ := Aside0.mk (show (((w3.setCell ⟨b3, 0, none⟩ (.int .i64 x.f0)).setCell ⟨b3, 1, none⟩ (.int .i64 x.f1)).setCell ⟨b3, 2, none⟩ (.bool x.f2)).heap[b2]? = _ from (blk_far (blk_far (blk_far BK2.out NE2_3.out _) NE2_3.out _) NE2_3.out _)); have n3_ : Aside0 ((((w3.setCell ⟨b3, 0, none⟩ (.int .i64 x.f0)).setCell ⟨b3, 1, none⟩ (.int .i64 x.f1)).setCell ⟨b3, 2, none⟩ (.bool x.f2)).heap[b3]? = some (.cells #[.int .i64 x.f0, .int .i64 x.f1, .bool x.f2] 53 (0, 0))) := ⟨(blk_list (blk_list (blk_list BK3.out 0 _) 1 _) 2 _)⟩; clear HB BK1 BK2 BK3; have HB := n0_; have BK1 := n1_; have BK2 := n2_; have BK3 := n3_; clear n0_ n1_ n2_ n3_))
  refine bodyPost_ret (results_cell_row rfl _ _ b2 53 #[.int .i64 x.f0, .int .i64 x.f1, .bool x.f2] (0, 0) _ rfl (blk_list (blk_list (blk_list BK2.out 0 _) 1 _) 2 _) Try.underlying53 rfl (by kernel_rfl)) rfl ?_
  exact ⟨rfl, (below_set (below_set (below_set HB.out GE2.out) GE2.out) GE2.out)⟩
def smL90 (l : List S90) : Prop := l.length ≤ 1048576 ∧ ∀ j, sm90 (l.getD j z90)
theorem cv90_at (l : List S90) (j : Nat) (h : j < l.length) : (l.map cv90).getD j z53 = cv90 (l.getD j z90) := by simp [List.getD, h]
set_option maxHeartbeats 4000000 in
set_option maxRecDepth 100000 in
theorem to34 (l : List S90) (A0 : Option Addr) (c0 : Nat) (w : World) (hr : Kd.C k90 w A0 l.length l) (hc : l.length ≤ c0) (hs : smL90 l) :
    Calls Try.prog 34 #[.slice A0 l.length c0] w fun e w' => ∃ (A : Option Addr) (c : Nat), e = .returned (.slice A l.length c) ∧ Kd.R k53 53 w' w.heap.size (fun _ => True) (.slice A l.length c) (l.map cv90) ∧ Below w.heap.size w w' := by
  have hl : l.length ≤ 1048576 := hs.1
  have HLL := Aside0.mk hl
  have HS := Aside0.mk hs
  have HR := Aside0.mk hr
  have h00 : 0 ≤ (l.length : Int) := by omega
  clear hr hs hl
  have HB := Aside0.mk (Below.refl w.heap.size w)
  go_enter Try.func34, Try.ntmps34
  go_wp2_with (first | ((with_reducible refine gate_dst (N := 7) rfl ?_); refine Kd.R_make k53 _ 53 rfl (N := 7) rfl 36 _ _ rfl (l.length : Int) rfl rfl Try.underlying36 (.agg #[(.int .i64 0), (.int .i64 0), (.bool false)]) 24 info53 rfl (by decide) (by decide) z53 (ok := fun _ => True) (okp := fun _ => True) (k53_mkM _ _ _ z53) (fun _ hk => hk) trivial h00 (by have := HLL.out; simp only [Int.toNat_natCast]; omega) (Below.refl _ _) (Nat.le_refl _) ?_; intro vo w4 ho hb hg_ hn_; rw [Int.toNat_natCast] at ho; have HO := Aside0.mk (Kd.R_lower ho (below_size HB.out)); have n0_ := Aside0.mk (below_step HB.out hb); clear HB ho hb hg_ hn_; have HB := n0_; clear n0_))
  go_loopw [4] (fun v w' => ∃ (n i : Nat) (xs : List S53), v = .int .i64 (i : Int) ∧ Aside0 (i + n = l.length ∧ xs.length = l.length ∧ xs.take i = ((l.map cv90)).take i) ∧ Aside0 (Kd.R k53 53 w' w.heap.size (fun _ => True) vo xs) ∧ Aside0 (Below w.heap.size w w')) (fun v _ => l.length - (intOf v).toNat)
  case atStart => exact ⟨l.length, 0, _, rfl, ⟨by omega, List.length_replicate, rfl⟩, HO, HB⟩
  case round =>
    clear HO
    obtain ⟨n, i, xs, rfl, HI, HO, HB⟩ := hrel
    cases n with
    | zero =>
      have hlt : decide ((i : Int) < (l.length : Int)) = false := decide_eq_false (by have := HI.out; omega)
      have hlt2 : decide (i < l.length) = false := decide_eq_false (by have := HI.out; omega)
      have HE := Aside0.mk (show xs = (l.map cv90) by have h := HI.out; rw [← List.take_of_length_le (show xs.length ≤ i by omega), h.2.2, List.take_of_length_le (by first | omega | (rw [List.length_map]; omega))])
      have HO2 : Aside0 (Kd.R k53 53 wr w.heap.size (fun _ => True) vo (l.map cv90)) := ⟨HE.out ▸ HO.out⟩
      obtain ⟨A, c, e9⟩ := Kd.R_slice HO2.out
      replace e9 : vo = .slice A l.length c := e9.trans (by first | rfl | simp)
      go_wp2
      go_ret
      exact ⟨A, c, congrArg Ending.returned e9, e9 ▸ HO2.out, HB.out⟩
    | succ n =>
      have hlt : decide ((i : Int) < (l.length : Int)) = true := decide_eq_true (by have := HI.out; omega)
      have hlt2 : decide (i < l.length) = true := decide_eq_true (by have := HI.out; omega)
      have q0 : (0 : Int) ≤ (i : Int) := by omega
      have q1 : (i : Int) < (l.length : Int) := by have := HI.out; omega
      have q2 : (i < l.length) = True := eq_true (by have := HI.out; omega)
      have HW := Aside0.mk (show wrap64 ((i : Int) + 1) = ((i + 1 : Nat) : Int) by have := HI.out; have := HLL.out; unfold wrap64; omega)
      have HL := Aside0.mk (show i < l.length by have := HI.out; omega)
      obtain ⟨g, cap, e9, hge, hlt9, _⟩ := Kd.R_form HO.out (by have := HI.out; omega)
      rw [HI.out.2.1] at e9
      subst e9
      have GE := Aside0.mk hge
      have GL := Aside0.mk hlt9
      clear hge hlt9
      obtain ⟨ad, ea, hx0, hx1, hx2⟩ := at_T90 (Kd.C_below HR.out HB.out) (i : Int) q0 q1
      subst ea
      simp only [Int.toNat_natCast] at hx0 hx1 hx2
      obtain ⟨x, hX⟩ : ∃ x, rd_T90 l (i : Int) = x := ⟨_, rfl⟩
      rw [hX] at hx0 hx1 hx2
      have HXX := Aside0.mk (show l.getD i z90 = x from hX)
      have HSX := Aside0.mk (show sm90 x by rw [← HXX.out]; exact HS.out.2 i)
      clear hX 
      replace q0 := eq_true q0
      replace q1 := eq_true q1
      go_wp2_with (first
        | (go_at_call 49; (with_reducible refine (to49 x _ HSX.out).mono ?_); rintro e w9 ⟨rfl, hb⟩; have n0_ := Aside0.mk (below_step HB.out hb); have n1_ := Aside0.mk (Kd.R_below HO.out hb); clear HB HO hb; have HB := n0_; have HO := n1_; clear n0_ n1_; obtain ⟨co, hcl, _, hcc, hfr⟩ := Kd.R_elem HO.out z53 (i : Int) (of_eq_true q0) (by have := HL.out; omega); obtain ⟨y0, y1, y2, rfl⟩ := list_3 co hcl; have HCL := Aside0.mk hcl; have HCC := Aside0.mk hcc; clear hcl hcc hfr)
        | ((with_reducible refine gate_store (t := 53) (p := 21) rfl ?_); refine Kd.R_store k53 (w0 := w) w.heap.size rfl rfl 53 (.tmp 21) (.tmp 20) rfl 53 (i : Int) 0 xs (cv90 x) _ [.int .i64 x.f0, .int .i64 x.f1, .bool x.f2] [y0, y1, y2] (fun _ => True) (fun k => k ≠ g) rfl ?h1 rfl rfl (by kernel_rfl) (by simp [Value.oneCell']) HO.out (of_eq_true q0) (by have := HL.out; omega) HCL.out HCC.out (show 0 + 3 ≤ 3 by decide) (k53_mkM w9 w.heap.size (fun k => k ≠ g) (cv90 x)) (fun k hk => ⟨trivial, hk⟩) HB.out ?_; (case h1 => first | rfl | simp [show (k53).sz = 1 from rfl]); intro w10 ho hb hg; have n0_ := Aside0.mk ho; have n1_ := Aside0.mk hb; clear HO HB ho hb hg; have HO := n0_; have HB := n1_; clear n0_ n1_; rw [Int.toNat_natCast] at HO))
      have HX := Aside0.mk (show (xs.set i (cv90 x)).take (i + 1) = ((l.map cv90)).take (i + 1) from take_set_step xs ((l.map cv90)) i (by have := HI.out; omega) (by first | exact HL.out | (rw [List.length_map]; exact HL.out)) HI.out.2.2 _ _ ((cv90_at l i HL.out).trans (congrArg cv90 HXX.out)))
      go_roundw
      case rel => exact ⟨n, i + 1, xs.set i (cv90 x), congrArg (Value.int .i64) HW.out, ⟨by have := HI.out; omega, by rw [List.length_set]; exact HI.out.2.1, HX.out⟩, HO, HB⟩
      case measure => rw [HW.out]; have := HL.out; show l.length - ((i + 1 : Nat) : Int).toNat < l.length - ((i : Nat) : Int).toNat; omega
def cv94 (x : S94) : S92 := ⟨x.f0, x.f1, x.f2⟩
def sm94 (x : S94) : Prop := True
set_option maxHeartbeats 4000000 in
set_option maxRecDepth 100000 in
theorem to50 (x : S94) (w : World) (hs : sm94 x) :
    Calls Try.prog 50 #[.agg #[.int .i64 x.f0, .bool x.f1, .bool x.f2]] w fun e w' => e = .returned (.agg #[.int .i64 x.f0, .bool x.f1, .bool x.f2]) ∧ Below w.heap.size w w' := by
  have hu := Try.underlying94
  have hv := Try.underlying92
  clear hs
  have HB := Aside0.mk (Below.refl w.heap.size w)
  go_enter Try.func50, Try.ntmps50
  go_wp2_with (first
    | ((with_reducible refine gate_dst (N := 1) rfl ?_); refine box_event ?hg (N := 1) ?hd (cs := #[.int .i64 x.f0, .bool x.f1, .bool x.f2]) (t := 94) ?hr ?_; (case hd => rfl); (case hg => rfl); (case hr => first | (go_simp; done) | (go_simp; rfl)); intro b1 hg w1 hbox hb; have GE1 := Aside0.mk (show w.heap.size ≤ b1 by rw [hg]; exact below_size HB.out); have n9_ := Aside0.mk (below_step HB.out hb); clear HB; have HB := n9_; clear n9_; have BK1 := Aside0.mk hbox; clear hbox hg hb)
    | ((with_reducible refine gate_dst (N := 2) rfl ?_); refine box_event ?hg (N := 2) ?hd (cs := #[.int .i64 0, .bool false, .bool false]) (t := 92) ?hr ?_; (case hd => rfl); (case hg => rfl); (case hr => first | (go_simp; done) | (go_simp; rfl)); intro b2 hg w2 hbox hb; have GE2 := Aside0.mk (show w.heap.size ≤ b2 by rw [hg]; exact below_size HB.out); have n1_ := Aside0.mk (blk_below BK1.out hb); have NE1_2 := Aside0.mk (show b1 ≠ b2 by rw [hg]; exact Nat.ne_of_lt (blk_lt BK1.out)); clear BK1; have BK1 := n1_; clear n1_; have n9_ := Aside0.mk (below_step HB.out hb); clear HB; have HB := n9_; clear n9_; have BK2 := Aside0.mk hbox; clear hbox hg hb)
    | ((with_reducible refine gate_dst (N := 3) rfl ?_); refine box_event ?hg (N := 3) ?hd (cs := #[.int .i64 0, .bool false, .bool false]) (t := 92) ?hr ?_; (case hd => rfl); (case hg => rfl); (case hr => first | (go_simp; done) | (go_simp; rfl)); intro b3 hg w3 hbox hb; have GE3 := Aside0.mk (show w.heap.size ≤ b3 by rw [hg]; exact below_size HB.out); have n1_ := Aside0.mk (blk_below BK1.out hb); have NE1_3 := Aside0.mk (show b1 ≠ b3 by rw [hg]; exact Nat.ne_of_lt (blk_lt BK1.out)); clear BK1; have BK1 := n1_; clear n1_; have n2_ := Aside0.mk (blk_below BK2.out hb); have NE2_3 := Aside0.mk (show b2 ≠ b3 by rw [hg]; exact Nat.ne_of_lt (blk_lt BK2.out)); clear BK2; have BK2 := n2_; clear n2_; have n9_ := Aside0.mk (below_step HB.out hb); clear HB; have HB := n9_; clear n9_; have BK3 := Aside0.mk hbox; clear hbox hg hb; have hne := NE1_3.out; have hne2 := NE1_3.out.symm; have hs0_w3 := (show w3.cell? ⟨b1, 0, none⟩ = some (.int .i64 x.f0) from (blk_cell BK1.out 0).trans rfl); have hs1_w3 := (show w3.cell? ⟨b1, 1, none⟩ = some (.bool x.f1) from (blk_cell BK1.out 1).trans rfl); have hs2_w3 := (show w3.cell? ⟨b1, 2, none⟩ = some (.bool x.f2) from (blk_cell BK1.out 2).trans rfl); have hf0_w3 := (show w3.frozen? ⟨b3, 0, none⟩ = false from blk_frozen BK3.out 0); have hf1_w3 := (show w3.frozen? ⟨b3, 1, none⟩ = false from blk_frozen BK3.out 1); have hf2_w3 := (show w3.frozen? ⟨b3, 2, none⟩ = false from blk_frozen BK3.out 2); have hc0_w3 := (show w3.cell? ⟨b3, 0, none⟩ = some (.int .i64 0) from (blk_cell BK3.out 0).trans rfl); have hc1_w3 := (show w3.cell? ⟨b3, 1, none⟩ = some (.bool false) from (blk_cell BK3.out 1).trans rfl); have hc2_w3 := (show w3.cell? ⟨b3, 2, none⟩ = some (.bool false) from (blk_cell BK3.out 2).trans rfl); have hz0_w3 := (show w3.cell? ⟨b2, 0, none⟩ = some (.int .i64 0) from (blk_cell BK2.out 0).trans rfl); have hz1_w3 := (show w3.cell? ⟨b2, 1, none⟩ = some (.bool false) from (blk_cell BK2.out 1).trans rfl); have hz2_w3 := (show w3.cell? ⟨b2, 2, none⟩ = some (.bool false) from (blk_cell BK2.out 2).trans rfl); have hg0_w3 := (show w3.frozen? ⟨b2, 0, none⟩ = false from blk_frozen BK2.out 0); have hg1_w3 := (show w3.frozen? ⟨b2, 1, none⟩ = false from blk_frozen BK2.out 1); have hg2_w3 := (show w3.frozen? ⟨b2, 2, none⟩ = false from blk_frozen BK2.out 2); have hn3 := NE2_3.out; have hn4 := NE2_3.out.symm; have n0_ := Aside0.mk (show Below w.heap.size w (((w3.setCell ⟨b3, 0, none⟩ (.int .i64 x.f0)).setCell ⟨b3, 1, none⟩ (.bool x.f1)).setCell ⟨b3, 2, none⟩ (.bool x.f2)) from (below_set (below_set (below_set HB.out GE3.out) GE3.out) GE3.out)); have n1_ := Aside0.mk (show (((w3.setCell ⟨b3, 0, none⟩ (.int .i64 x.f0)).setCell ⟨b3, 1, none⟩ (.bool x.f1)).setCell ⟨b3, 2, none⟩ (.bool x.f2)).heap[b1]? = _ from (blk_far (blk_far (blk_far BK1.out NE1_3.out _) NE1_3.out _) NE1_3.out _)); have n2_ := Aside0.mk (show (((w3.setCell ⟨b3, 0, none⟩ (.int .i64 x.f0)).setCell ⟨b3, 1, none⟩ (.bool x.f1)).setCell ⟨b3, 2, none⟩ (.bool x.f2)).heap[b2]? = _ from (blk_far (blk_far (blk_far BK2.out NE2_3.out _) NE2_3.out _) NE2_3.out _)); have n3_ : Aside0 ((((w3.setCell ⟨b3, 0, none⟩ (.int .i64 x.f0)).setCell ⟨b3, 1, none⟩ (.bool x.f1)).setCell ⟨b3, 2, none⟩ (.bool x.f2)).heap[b3]? = some (.cells #[.int .i64 x.f0, .bool x.f1, .bool x.f2] 92 (0, 0))) := ⟨(blk_list (blk_list (blk_list BK3.out 0 _) 1 _) 2 _)⟩; clear HB BK1 BK2 BK3; have HB := n0_; have BK1 := n1_; have BK2 := n2_; have BK3 := n3_; clear n0_ n1_ n2_ n3_))
  refine bodyPost_ret (results_cell_row rfl _ _ b2 92 #[.int .i64 x.f0, .bool x.f1, .bool x.f2] (0, 0) _ rfl (blk_list (blk_list (blk_list BK2.out 0 _) 1 _) 2 _) Try.underlying92 rfl (by kernel_rfl)) rfl ?_
  exact ⟨rfl, (below_set (below_set (below_set HB.out GE2.out) GE2.out) GE2.out)⟩
def smL94 (l : List S94) : Prop := l.length ≤ 1048576 ∧ ∀ j, sm94 (l.getD j z94)
theorem cv94_at (l : List S94) (j : Nat) (h : j < l.length) : (l.map cv94).getD j z92 = cv94 (l.getD j z94) := by simp [List.getD, h]
set_option maxHeartbeats 4000000 in
set_option maxRecDepth 100000 in
theorem to35 (l : List S94) (A0 : Option Addr) (c0 : Nat) (w : World) (hr : Kd.C k94 w A0 l.length l) (hc : l.length ≤ c0) (hs : smL94 l) :
    Calls Try.prog 35 #[.slice A0 l.length c0] w fun e w' => ∃ (A : Option Addr) (c : Nat), e = .returned (.slice A l.length c) ∧ Kd.R k92 92 w' w.heap.size (fun _ => True) (.slice A l.length c) (l.map cv94) ∧ Below w.heap.size w w' := by
  have hl : l.length ≤ 1048576 := hs.1
  have HLL := Aside0.mk hl
  have HS := Aside0.mk hs
  have HR := Aside0.mk hr
  have h00 : 0 ≤ (l.length : Int) := by omega
  clear hr hs hl
  have HB := Aside0.mk (Below.refl w.heap.size w)
  go_enter Try.func35, Try.ntmps35
  go_wp2_with (first | ((with_reducible refine gate_dst (N := 7) rfl ?_); refine Kd.R_make k92 _ 92 rfl (N := 7) rfl 37 _ _ rfl (l.length : Int) rfl rfl Try.underlying37 (.agg #[(.int .i64 0), (.bool false), (.bool false)]) 16 info92 rfl (by decide) (by decide) z92 (ok := fun _ => True) (okp := fun _ => True) (k92_mkM _ _ _ z92) (fun _ hk => hk) trivial h00 (by have := HLL.out; simp only [Int.toNat_natCast]; omega) (Below.refl _ _) (Nat.le_refl _) ?_; intro vo w4 ho hb hg_ hn_; rw [Int.toNat_natCast] at ho; have HO := Aside0.mk (Kd.R_lower ho (below_size HB.out)); have n0_ := Aside0.mk (below_step HB.out hb); clear HB ho hb hg_ hn_; have HB := n0_; clear n0_))
  go_loopw [4] (fun v w' => ∃ (n i : Nat) (xs : List S92), v = .int .i64 (i : Int) ∧ Aside0 (i + n = l.length ∧ xs.length = l.length ∧ xs.take i = ((l.map cv94)).take i) ∧ Aside0 (Kd.R k92 92 w' w.heap.size (fun _ => True) vo xs) ∧ Aside0 (Below w.heap.size w w')) (fun v _ => l.length - (intOf v).toNat)
  case atStart => exact ⟨l.length, 0, _, rfl, ⟨by omega, List.length_replicate, rfl⟩, HO, HB⟩
  case round =>
    clear HO
    obtain ⟨n, i, xs, rfl, HI, HO, HB⟩ := hrel
    cases n with
    | zero =>
      have hlt : decide ((i : Int) < (l.length : Int)) = false := decide_eq_false (by have := HI.out; omega)
      have hlt2 : decide (i < l.length) = false := decide_eq_false (by have := HI.out; omega)
      have HE := Aside0.mk (show xs = (l.map cv94) by have h := HI.out; rw [← List.take_of_length_le (show xs.length ≤ i by omega), h.2.2, List.take_of_length_le (by first | omega | (rw [List.length_map]; omega))])
      have HO2 : Aside0 (Kd.R k92 92 wr w.heap.size (fun _ => True) vo (l.map cv94)) := ⟨HE.out ▸ HO.out⟩
      obtain ⟨A, c, e9⟩ := Kd.R_slice HO2.out
      replace e9 : vo = .slice A l.length c := e9.trans (by first | rfl | simp)
      go_wp2
      go_ret
      exact ⟨A, c, congrArg Ending.returned e9, e9 ▸ HO2.out, HB.out⟩
    | succ n =>
      have hlt : decide ((i : Int) < (l.length : Int)) = true := decide_eq_true (by have := HI.out; omega)
      have hlt2 : decide (i < l.length) = true := decide_eq_true (by have := HI.out; omega)
      have q0 : (0 : Int) ≤ (i : Int) := by omega
      have q1 : (i : Int) < (l.length : Int) := by have := HI.out; omega
      have q2 : (i < l.length) = True := eq_true (by have := HI.out; omega)
      have HW := Aside0.mk (show wrap64 ((i : Int) + 1) = ((i + 1 : Nat) : Int) by have := HI.out; have := HLL.out; unfold wrap64; omega)
      have HL := Aside0.mk (show i < l.length by have := HI.out; omega)
      obtain ⟨g, cap, e9, hge, hlt9, _⟩ := Kd.R_form HO.out (by have := HI.out; omega)
      rw [HI.out.2.1] at e9
      subst e9
      have GE := Aside0.mk hge
      have GL := Aside0.mk hlt9
      clear hge hlt9
      obtain ⟨ad, ea, hx0, hx1, hx2⟩ := at_T94 (Kd.C_below HR.out HB.out) (i : Int) q0 q1
      subst ea
      simp only [Int.toNat_natCast] at hx0 hx1 hx2
      obtain ⟨x, hX⟩ : ∃ x, rd_T94 l (i : Int) = x := ⟨_, rfl⟩
      rw [hX] at hx0 hx1 hx2
      have HXX := Aside0.mk (show l.getD i z94 = x from hX)
      have HSX := Aside0.mk (show sm94 x by rw [← HXX.out]; exact HS.out.2 i)
      clear hX 
      replace q0 := eq_true q0
      replace q1 := eq_true q1
      go_wp2_with (first
        | (go_at_call 50; (with_reducible refine (to50 x _ HSX.out).mono ?_); rintro e w9 ⟨rfl, hb⟩; have n0_ := Aside0.mk (below_step HB.out hb); have n1_ := Aside0.mk (Kd.R_below HO.out hb); clear HB HO hb; have HB := n0_; have HO := n1_; clear n0_ n1_; obtain ⟨co, hcl, _, hcc, hfr⟩ := Kd.R_elem HO.out z92 (i : Int) (of_eq_true q0) (by have := HL.out; omega); obtain ⟨y0, y1, y2, rfl⟩ := list_3 co hcl; have HCL := Aside0.mk hcl; have HCC := Aside0.mk hcc; clear hcl hcc hfr)
        | ((with_reducible refine gate_store (t := 92) (p := 21) rfl ?_); refine Kd.R_store k92 (w0 := w) w.heap.size rfl rfl 92 (.tmp 21) (.tmp 20) rfl 92 (i : Int) 0 xs (cv94 x) _ [.int .i64 x.f0, .bool x.f1, .bool x.f2] [y0, y1, y2] (fun _ => True) (fun k => k ≠ g) rfl ?h1 rfl rfl (by kernel_rfl) (by simp [Value.oneCell']) HO.out (of_eq_true q0) (by have := HL.out; omega) HCL.out HCC.out (show 0 + 3 ≤ 3 by decide) (k92_mkM w9 w.heap.size (fun k => k ≠ g) (cv94 x)) (fun k hk => ⟨trivial, hk⟩) HB.out ?_; (case h1 => first | rfl | simp [show (k92).sz = 1 from rfl]); intro w10 ho hb hg; have n0_ := Aside0.mk ho; have n1_ := Aside0.mk hb; clear HO HB ho hb hg; have HO := n0_; have HB := n1_; clear n0_ n1_; rw [Int.toNat_natCast] at HO))
      have HX := Aside0.mk (show (xs.set i (cv94 x)).take (i + 1) = ((l.map cv94)).take (i + 1) from take_set_step xs ((l.map cv94)) i (by have := HI.out; omega) (by first | exact HL.out | (rw [List.length_map]; exact HL.out)) HI.out.2.2 _ _ ((cv94_at l i HL.out).trans (congrArg cv94 HXX.out)))
      go_roundw
      case rel => exact ⟨n, i + 1, xs.set i (cv94 x), congrArg (Value.int .i64) HW.out, ⟨by have := HI.out; omega, by rw [List.length_set]; exact HI.out.2.1, HX.out⟩, HO, HB⟩
      case measure => rw [HW.out]; have := HL.out; show l.length - ((i + 1 : Nat) : Int).toNat < l.length - ((i : Nat) : Int).toNat; omega
def cv60 (x : S60) : S39 := ⟨x.f0, x.f1, x.f2, x.f3, x.f4, x.f5, (x.f6.map cv87), x.f7, (x.f8.map cv90), (x.f9.map cv94), x.f10⟩
def sm60 (x : S60) : Prop := smL87 x.f6 ∧ smL3 x.f7 ∧ smL90 x.f8 ∧ smL94 x.f9 ∧ smL3 x.f10 ∧ True
set_option maxHeartbeats 4000000 in
set_option maxRecDepth 100000 in
theorem to19 (x : S60) (A6 : Option Addr) (c6 : Nat) (A7 : Option Addr) (c7 : Nat) (A8 : Option Addr) (c8 : Nat) (A9 : Option Addr) (c9 : Nat) (A10 : Option Addr) (c10 : Nat) (w : World) (g6 : Kd.C k87 w A6 x.f6.length x.f6) (l6 : x.f6.length ≤ c6) (g7 : Kd.C (Kd.int .i64) w A7 x.f7.length x.f7) (l7 : x.f7.length ≤ c7) (g8 : Kd.C k90 w A8 x.f8.length x.f8) (l8 : x.f8.length ≤ c8) (g9 : Kd.C k94 w A9 x.f9.length x.f9) (l9 : x.f9.length ≤ c9) (g10 : Kd.C (Kd.int .i64) w A10 x.f10.length x.f10) (l10 : x.f10.length ≤ c10) (hs : sm60 x) :
    Calls Try.prog 19 #[.agg #[.int .i64 x.f0, .int .i64 x.f1, .int .i64 x.f2, .int .i64 x.f3, .int .i64 x.f4, .int .i64 x.f5, .slice A6 x.f6.length c6, .slice A7 x.f7.length c7, .slice A8 x.f8.length c8, .slice A9 x.f9.length c9, .slice A10 x.f10.length c10]] w fun e w' => ∃ (B6 : Option Addr) (d6 : Nat), ∃ (B7 : Option Addr) (d7 : Nat), ∃ (B8 : Option Addr) (d8 : Nat), ∃ (B9 : Option Addr) (d9 : Nat), ∃ (B10 : Option Addr) (d10 : Nat), e = .returned (.agg #[.int .i64 x.f0, .int .i64 x.f1, .int .i64 x.f2, .int .i64 x.f3, .int .i64 x.f4, .int .i64 x.f5, .slice B6 x.f6.length d6, .slice B7 x.f7.length d7, .slice B8 x.f8.length d8, .slice B9 x.f9.length d9, .slice B10 x.f10.length d10]) ∧ Kd.R k44 44 w' w.heap.size (fun _ => True) (.slice B6 x.f6.length d6) (x.f6.map cv87) ∧ Kd.R (Kd.int .i64) 3 w' w.heap.size (fun _ => True) (.slice B7 x.f7.length d7) x.f7 ∧ Kd.R k53 53 w' w.heap.size (fun _ => True) (.slice B8 x.f8.length d8) (x.f8.map cv90) ∧ Kd.R k92 92 w' w.heap.size (fun _ => True) (.slice B9 x.f9.length d9) (x.f9.map cv94) ∧ Kd.R (Kd.int .i64) 3 w' w.heap.size (fun _ => True) (.slice B10 x.f10.length d10) x.f10 ∧ Below w.heap.size w w' := by
  have hu := Try.underlying60
  have hv := Try.underlying39
  have G6 := Aside0.mk g6
  have L6 := Aside0.mk l6
  have G7 := Aside0.mk g7
  have L7 := Aside0.mk l7
  have G8 := Aside0.mk g8
  have L8 := Aside0.mk l8
  have G9 := Aside0.mk g9
  have L9 := Aside0.mk l9
  have G10 := Aside0.mk g10
  have L10 := Aside0.mk l10
  obtain ⟨s6, s7, s8, s9, s10, _⟩ := hs
  have SM6 := Aside0.mk s6
  have SM7 := Aside0.mk s7
  have SM8 := Aside0.mk s8
  have SM9 := Aside0.mk s9
  have SM10 := Aside0.mk s10
  clear g6 l6 g7 l7 g8 l8 g9 l9 g10 l10 s6 s7 s8 s9 s10
  have HB := Aside0.mk (Below.refl w.heap.size w)
  go_enter Try.func19, Try.ntmps19
  have tok0 : True := trivial
  have tok1 : True := trivial
  have tok2 : True := trivial
  have tok3 : True := trivial
  have tok4 : True := trivial
  go_wp2_with (first
    | ((with_reducible refine gate_dst (N := 1) rfl ?_); refine box_event ?hg (N := 1) ?hd (cs := #[.int .i64 x.f0, .int .i64 x.f1, .int .i64 x.f2, .int .i64 x.f3, .int .i64 x.f4, .int .i64 x.f5, .slice A6 x.f6.length c6, .slice A7 x.f7.length c7, .slice A8 x.f8.length c8, .slice A9 x.f9.length c9, .slice A10 x.f10.length c10]) (t := 60) ?hr ?_; (case hd => rfl); (case hg => rfl); (case hr => first | (go_simp; done) | (go_simp; rfl)); intro b1 hg w1 hbox hb; have GE1 := Aside0.mk (show w.heap.size ≤ b1 by rw [hg]; exact below_size HB.out); have n9_ := Aside0.mk (below_step HB.out hb); clear HB; have HB := n9_; clear n9_; have BK1 := Aside0.mk hbox; clear hbox hg hb)
    | ((with_reducible refine gate_dst (N := 2) rfl ?_); refine box_event ?hg (N := 2) ?hd (cs := #[.int .i64 0, .int .i64 0, .int .i64 0, .int .i64 0, .int .i64 0, .int .i64 0, .slice none 0 0, .slice none 0 0, .slice none 0 0, .slice none 0 0, .slice none 0 0]) (t := 39) ?hr ?_; (case hd => rfl); (case hg => rfl); (case hr => first | (go_simp; done) | (go_simp; rfl)); intro b2 hg w2 hbox hb; have GE2 := Aside0.mk (show w.heap.size ≤ b2 by rw [hg]; exact below_size HB.out); have n1_ := Aside0.mk (blk_below BK1.out hb); have NE1_2 := Aside0.mk (show b1 ≠ b2 by rw [hg]; exact Nat.ne_of_lt (blk_lt BK1.out)); clear BK1; have BK1 := n1_; clear n1_; have n9_ := Aside0.mk (below_step HB.out hb); clear HB; have HB := n9_; clear n9_; have BK2 := Aside0.mk hbox; clear hbox hg hb)
    | ((with_reducible refine gate_dst (N := 3) rfl ?_); refine box_event ?hg (N := 3) ?hd (cs := #[.int .i64 0, .int .i64 0, .int .i64 0, .int .i64 0, .int .i64 0, .int .i64 0, .slice none 0 0, .slice none 0 0, .slice none 0 0, .slice none 0 0, .slice none 0 0]) (t := 39) ?hr ?_; (case hd => rfl); (case hg => rfl); (case hr => first | (go_simp; done) | (go_simp; rfl)); intro b3 hg w3 hbox hb; have GE3 := Aside0.mk (show w.heap.size ≤ b3 by rw [hg]; exact below_size HB.out); have n1_ := Aside0.mk (blk_below BK1.out hb); have NE1_3 := Aside0.mk (show b1 ≠ b3 by rw [hg]; exact Nat.ne_of_lt (blk_lt BK1.out)); clear BK1; have BK1 := n1_; clear n1_; have n2_ := Aside0.mk (blk_below BK2.out hb); have NE2_3 := Aside0.mk (show b2 ≠ b3 by rw [hg]; exact Nat.ne_of_lt (blk_lt BK2.out)); clear BK2; have BK2 := n2_; clear n2_; have n9_ := Aside0.mk (below_step HB.out hb); clear HB; have HB := n9_; clear n9_; have BK3 := Aside0.mk hbox; clear hbox hg hb; have hne := NE1_3.out; have hne2 := NE1_3.out.symm; have hs0_w3 := (show w3.cell? ⟨b1, 0, none⟩ = some (.int .i64 x.f0) from (blk_cell BK1.out 0).trans rfl); have hs1_w3 := (show w3.cell? ⟨b1, 1, none⟩ = some (.int .i64 x.f1) from (blk_cell BK1.out 1).trans rfl); have hs2_w3 := (show w3.cell? ⟨b1, 2, none⟩ = some (.int .i64 x.f2) from (blk_cell BK1.out 2).trans rfl); have hs3_w3 := (show w3.cell? ⟨b1, 3, none⟩ = some (.int .i64 x.f3) from (blk_cell BK1.out 3).trans rfl); have hs4_w3 := (show w3.cell? ⟨b1, 4, none⟩ = some (.int .i64 x.f4) from (blk_cell BK1.out 4).trans rfl); have hs5_w3 := (show w3.cell? ⟨b1, 5, none⟩ = some (.int .i64 x.f5) from (blk_cell BK1.out 5).trans rfl); have hs6_w3 := (show w3.cell? ⟨b1, 6, none⟩ = some (.slice A6 x.f6.length c6) from (blk_cell BK1.out 6).trans rfl); have hc0_w3 := (show w3.cell? ⟨b3, 0, none⟩ = some (.int .i64 0) from (blk_cell BK3.out 0).trans rfl); have hc1_w3 := (show w3.cell? ⟨b3, 1, none⟩ = some (.int .i64 0) from (blk_cell BK3.out 1).trans rfl); have hc2_w3 := (show w3.cell? ⟨b3, 2, none⟩ = some (.int .i64 0) from (blk_cell BK3.out 2).trans rfl); have hc3_w3 := (show w3.cell? ⟨b3, 3, none⟩ = some (.int .i64 0) from (blk_cell BK3.out 3).trans rfl); have hc4_w3 := (show w3.cell? ⟨b3, 4, none⟩ = some (.int .i64 0) from (blk_cell BK3.out 4).trans rfl); have hc5_w3 := (show w3.cell? ⟨b3, 5, none⟩ = some (.int .i64 0) from (blk_cell BK3.out 5).trans rfl); have hf0_w3 := (show w3.frozen? ⟨b3, 0, none⟩ = false from blk_frozen BK3.out 0); have hf1_w3 := (show w3.frozen? ⟨b3, 1, none⟩ = false from blk_frozen BK3.out 1); have hf2_w3 := (show w3.frozen? ⟨b3, 2, none⟩ = false from blk_frozen BK3.out 2); have hf3_w3 := (show w3.frozen? ⟨b3, 3, none⟩ = false from blk_frozen BK3.out 3); have hf4_w3 := (show w3.frozen? ⟨b3, 4, none⟩ = false from blk_frozen BK3.out 4); have hf5_w3 := (show w3.frozen? ⟨b3, 5, none⟩ = false from blk_frozen BK3.out 5); have n0_ := Aside0.mk (show Below w.heap.size w ((((((w3.setCell ⟨b3, 0, none⟩ (.int .i64 x.f0)).setCell ⟨b3, 1, none⟩ (.int .i64 x.f1)).setCell ⟨b3, 2, none⟩ (.int .i64 x.f2)).setCell ⟨b3, 3, none⟩ (.int .i64 x.f3)).setCell ⟨b3, 4, none⟩ (.int .i64 x.f4)).setCell ⟨b3, 5, none⟩ (.int .i64 x.f5)) from (below_set (below_set (below_set (below_set (below_set (below_set HB.out GE3.out) GE3.out) GE3.out) GE3.out) GE3.out) GE3.out)); have n1_ := Aside0.mk (show ((((((w3.setCell ⟨b3, 0, none⟩ (.int .i64 x.f0)).setCell ⟨b3, 1, none⟩ (.int .i64 x.f1)).setCell ⟨b3, 2, none⟩ (.int .i64 x.f2)).setCell ⟨b3, 3, none⟩ (.int .i64 x.f3)).setCell ⟨b3, 4, none⟩ (.int .i64 x.f4)).setCell ⟨b3, 5, none⟩ (.int .i64 x.f5)).heap[b1]? = _ from (blk_far (blk_far (blk_far (blk_far (blk_far (blk_far BK1.out NE1_3.out _) NE1_3.out _) NE1_3.out _) NE1_3.out _) NE1_3.out _) NE1_3.out _)); have n2_ := Aside0.mk (show ((((((w3.setCell ⟨b3, 0, none⟩ (.int .i64 x.f0)).setCell ⟨b3, 1, none⟩ (.int .i64 x.f1)).setCell ⟨b3, 2, none⟩ (.int .i64 x.f2)).setCell ⟨b3, 3, none⟩ (.int .i64 x.f3)).setCell ⟨b3, 4, none⟩ (.int .i64 x.f4)).setCell ⟨b3, 5, none⟩ (.int .i64 x.f5)).heap[b2]? = _ from (blk_far (blk_far (blk_far (blk_far (blk_far (blk_far BK2.out NE2_3.out _) NE2_3.out _) NE2_3.out _) NE2_3.out _) NE2_3.out _) NE2_3.out _)); have n3_ : Aside0 (((((((w3.setCell ⟨b3, 0, none⟩ (.int .i64 x.f0)).setCell ⟨b3, 1, none⟩ (.int .i64 x.f1)).setCell ⟨b3, 2, none⟩ (.int .i64 x.f2)).setCell ⟨b3, 3, none⟩ (.int .i64 x.f3)).setCell ⟨b3, 4, none⟩ (.int .i64 x.f4)).setCell ⟨b3, 5, none⟩ (.int .i64 x.f5)).heap[b3]? = some (.cells #[.int .i64 x.f0, .int .i64 x.f1, .int .i64 x.f2, .int .i64 x.f3, .int .i64 x.f4, .int .i64 x.f5, .slice none 0 0, .slice none 0 0, .slice none 0 0, .slice none 0 0, .slice none 0 0] 39 (0, 0))) := ⟨(blk_list (blk_list (blk_list (blk_list (blk_list (blk_list BK3.out 0 _) 1 _) 2 _) 3 _) 4 _) 5 _)⟩; clear HB BK1 BK2 BK3; have HB := n0_; have BK1 := n1_; have BK2 := n2_; have BK3 := n3_; clear n0_ n1_ n2_ n3_)
    | (go_at_call 32; have t_ := tok0; clear t_; (with_reducible refine (to32 x.f6 A6 c6 _ (Kd.C_below G6.out HB.out) L6.out SM6.out).mono ?_); rintro e v0 ⟨B6, d6, rfl, hr, hb⟩; have n0_ := Aside0.mk (below_step HB.out hb); have m1_ := Aside0.mk (blk_below BK1.out hb); have m2_ := Aside0.mk (blk_below BK2.out hb); have m3_ := Aside0.mk (blk_below BK3.out hb); have r6_ := Aside0.mk (Kd.R_lower (R_not2 hr (blk_lt BK3.out) (blk_lt BK2.out)) (below_size HB.out)); clear hr; clear HB BK1 BK2 BK3 hb; have HB := n0_; have BK1 := m1_; have BK2 := m2_; have BK3 := m3_; have HO6 := r6_; clear n0_ m1_ m2_ m3_ r6_; clear hne hne2 hs0_w3 hs1_w3 hs2_w3 hs3_w3 hs4_w3 hs5_w3 hs6_w3 hc0_w3 hc1_w3 hc2_w3 hc3_w3 hc4_w3 hc5_w3 hf0_w3 hf1_w3 hf2_w3 hf3_w3 hf4_w3 hf5_w3; have hne := NE1_3.out; have hne2 := NE1_3.out.symm; have hs7_v0 := (show v0.cell? ⟨b1, 7, none⟩ = some (.slice A7 x.f7.length c7) from (blk_cell BK1.out 7).trans rfl); have hc6_v0 := (show v0.cell? ⟨b3, 6, none⟩ = some (.slice none 0 0) from (blk_cell BK3.out 6).trans rfl); have hf6_v0 := (show v0.frozen? ⟨b3, 6, none⟩ = false from blk_frozen BK3.out 6); have n0_ := Aside0.mk (show Below w.heap.size w (v0.setCell ⟨b3, 6, none⟩ (.slice B6 x.f6.length d6)) from (below_set HB.out GE3.out)); have n1_ := Aside0.mk (show (v0.setCell ⟨b3, 6, none⟩ (.slice B6 x.f6.length d6)).heap[b1]? = _ from (blk_far BK1.out NE1_3.out _)); have n2_ := Aside0.mk (show (v0.setCell ⟨b3, 6, none⟩ (.slice B6 x.f6.length d6)).heap[b2]? = _ from (blk_far BK2.out NE2_3.out _)); have n3_ : Aside0 ((v0.setCell ⟨b3, 6, none⟩ (.slice B6 x.f6.length d6)).heap[b3]? = some (.cells #[.int .i64 x.f0, .int .i64 x.f1, .int .i64 x.f2, .int .i64 x.f3, .int .i64 x.f4, .int .i64 x.f5, .slice B6 x.f6.length d6, .slice none 0 0, .slice none 0 0, .slice none 0 0, .slice none 0 0] 39 (0, 0))) := ⟨(blk_list BK3.out 6 _)⟩; have m6_ := Aside0.mk (show Kd.R k44 44 (v0.setCell ⟨b3, 6, none⟩ (.slice B6 x.f6.length d6)) _ _ _ _ from (Kd.R_far (p := ⟨b3, _, none⟩) HO6.out (fun k hk => hk.1) _)); clear HB BK1 BK2 BK3 HO6; have HB := n0_; have BK1 := n1_; have BK2 := n2_; have BK3 := n3_; have HO6 := m6_; clear n0_ n1_ n2_ n3_ m6_; clear tok0)
    | (go_at_call 33; have t_ := tok1; clear t_; (with_reducible refine (to33 x.f7 A7 c7 _ (Kd.C_below G7.out HB.out) L7.out SM7.out).mono ?_); rintro e v1 ⟨B7, d7, rfl, hr, hb⟩; have n0_ := Aside0.mk (below_step HB.out hb); have m1_ := Aside0.mk (blk_below BK1.out hb); have m2_ := Aside0.mk (blk_below BK2.out hb); have m3_ := Aside0.mk (blk_below BK3.out hb); have r6_ := Aside0.mk (Kd.R_below HO6.out hb); have r7_ := Aside0.mk (Kd.R_lower (R_not2 hr (blk_lt BK3.out) (blk_lt BK2.out)) (below_size HB.out)); clear hr; clear HB BK1 BK2 BK3 HO6 hb; have HB := n0_; have BK1 := m1_; have BK2 := m2_; have BK3 := m3_; have HO6 := r6_; have HO7 := r7_; clear n0_ m1_ m2_ m3_ r6_ r7_; clear hne hne2 hs7_v0 hc6_v0 hf6_v0; have hne := NE1_3.out; have hne2 := NE1_3.out.symm; have hs8_v1 := (show v1.cell? ⟨b1, 8, none⟩ = some (.slice A8 x.f8.length c8) from (blk_cell BK1.out 8).trans rfl); have hc7_v1 := (show v1.cell? ⟨b3, 7, none⟩ = some (.slice none 0 0) from (blk_cell BK3.out 7).trans rfl); have hf7_v1 := (show v1.frozen? ⟨b3, 7, none⟩ = false from blk_frozen BK3.out 7); have n0_ := Aside0.mk (show Below w.heap.size w (v1.setCell ⟨b3, 7, none⟩ (.slice B7 x.f7.length d7)) from (below_set HB.out GE3.out)); have n1_ := Aside0.mk (show (v1.setCell ⟨b3, 7, none⟩ (.slice B7 x.f7.length d7)).heap[b1]? = _ from (blk_far BK1.out NE1_3.out _)); have n2_ := Aside0.mk (show (v1.setCell ⟨b3, 7, none⟩ (.slice B7 x.f7.length d7)).heap[b2]? = _ from (blk_far BK2.out NE2_3.out _)); have n3_ : Aside0 ((v1.setCell ⟨b3, 7, none⟩ (.slice B7 x.f7.length d7)).heap[b3]? = some (.cells #[.int .i64 x.f0, .int .i64 x.f1, .int .i64 x.f2, .int .i64 x.f3, .int .i64 x.f4, .int .i64 x.f5, .slice B6 x.f6.length d6, .slice B7 x.f7.length d7, .slice none 0 0, .slice none 0 0, .slice none 0 0] 39 (0, 0))) := ⟨(blk_list BK3.out 7 _)⟩; have m6_ := Aside0.mk (show Kd.R k44 44 (v1.setCell ⟨b3, 7, none⟩ (.slice B7 x.f7.length d7)) _ _ _ _ from (Kd.R_far (p := ⟨b3, _, none⟩) HO6.out (fun k hk => hk.1) _)); have m7_ := Aside0.mk (show Kd.R (Kd.int .i64) 3 (v1.setCell ⟨b3, 7, none⟩ (.slice B7 x.f7.length d7)) _ _ _ _ from (Kd.R_far (p := ⟨b3, _, none⟩) HO7.out (fun k hk => hk.1) _)); clear HB BK1 BK2 BK3 HO6 HO7; have HB := n0_; have BK1 := n1_; have BK2 := n2_; have BK3 := n3_; have HO6 := m6_; have HO7 := m7_; clear n0_ n1_ n2_ n3_ m6_ m7_; clear tok1)
    | (go_at_call 34; have t_ := tok2; clear t_; (with_reducible refine (to34 x.f8 A8 c8 _ (Kd.C_below G8.out HB.out) L8.out SM8.out).mono ?_); rintro e v2 ⟨B8, d8, rfl, hr, hb⟩; have n0_ := Aside0.mk (below_step HB.out hb); have m1_ := Aside0.mk (blk_below BK1.out hb); have m2_ := Aside0.mk (blk_below BK2.out hb); have m3_ := Aside0.mk (blk_below BK3.out hb); have r6_ := Aside0.mk (Kd.R_below HO6.out hb); have r7_ := Aside0.mk (Kd.R_below HO7.out hb); have r8_ := Aside0.mk (Kd.R_lower (R_not2 hr (blk_lt BK3.out) (blk_lt BK2.out)) (below_size HB.out)); clear hr; clear HB BK1 BK2 BK3 HO6 HO7 hb; have HB := n0_; have BK1 := m1_; have BK2 := m2_; have BK3 := m3_; have HO6 := r6_; have HO7 := r7_; have HO8 := r8_; clear n0_ m1_ m2_ m3_ r6_ r7_ r8_; clear hne hne2 hs8_v1 hc7_v1 hf7_v1; have hne := NE1_3.out; have hne2 := NE1_3.out.symm; have hs9_v2 := (show v2.cell? ⟨b1, 9, none⟩ = some (.slice A9 x.f9.length c9) from (blk_cell BK1.out 9).trans rfl); have hc8_v2 := (show v2.cell? ⟨b3, 8, none⟩ = some (.slice none 0 0) from (blk_cell BK3.out 8).trans rfl); have hf8_v2 := (show v2.frozen? ⟨b3, 8, none⟩ = false from blk_frozen BK3.out 8); have n0_ := Aside0.mk (show Below w.heap.size w (v2.setCell ⟨b3, 8, none⟩ (.slice B8 x.f8.length d8)) from (below_set HB.out GE3.out)); have n1_ := Aside0.mk (show (v2.setCell ⟨b3, 8, none⟩ (.slice B8 x.f8.length d8)).heap[b1]? = _ from (blk_far BK1.out NE1_3.out _)); have n2_ := Aside0.mk (show (v2.setCell ⟨b3, 8, none⟩ (.slice B8 x.f8.length d8)).heap[b2]? = _ from (blk_far BK2.out NE2_3.out _)); have n3_ : Aside0 ((v2.setCell ⟨b3, 8, none⟩ (.slice B8 x.f8.length d8)).heap[b3]? = some (.cells #[.int .i64 x.f0, .int .i64 x.f1, .int .i64 x.f2, .int .i64 x.f3, .int .i64 x.f4, .int .i64 x.f5, .slice B6 x.f6.length d6, .slice B7 x.f7.length d7, .slice B8 x.f8.length d8, .slice none 0 0, .slice none 0 0] 39 (0, 0))) := ⟨(blk_list BK3.out 8 _)⟩; have m6_ := Aside0.mk (show Kd.R k44 44 (v2.setCell ⟨b3, 8, none⟩ (.slice B8 x.f8.length d8)) _ _ _ _ from (Kd.R_far (p := ⟨b3, _, none⟩) HO6.out (fun k hk => hk.1) _)); have m7_ := Aside0.mk (show Kd.R (Kd.int .i64) 3 (v2.setCell ⟨b3, 8, none⟩ (.slice B8 x.f8.length d8)) _ _ _ _ from (Kd.R_far (p := ⟨b3, _, none⟩) HO7.out (fun k hk => hk.1) _)); have m8_ := Aside0.mk (show Kd.R k53 53 (v2.setCell ⟨b3, 8, none⟩ (.slice B8 x.f8.length d8)) _ _ _ _ from (Kd.R_far (p := ⟨b3, _, none⟩) HO8.out (fun k hk => hk.1) _)); clear HB BK1 BK2 BK3 HO6 HO7 HO8; have HB := n0_; have BK1 := n1_; have BK2 := n2_; have BK3 := n3_; have HO6 := m6_; have HO7 := m7_; have HO8 := m8_; clear n0_ n1_ n2_ n3_ m6_ m7_ m8_; clear tok2)
    | (go_at_call 35; have t_ := tok3; clear t_; (with_reducible refine (to35 x.f9 A9 c9 _ (Kd.C_below G9.out HB.out) L9.out SM9.out).mono ?_); rintro e v3 ⟨B9, d9, rfl, hr, hb⟩; have n0_ := Aside0.mk (below_step HB.out hb); have m1_ := Aside0.mk (blk_below BK1.out hb); have m2_ := Aside0.mk (blk_below BK2.out hb); have m3_ := Aside0.mk (blk_below BK3.out hb); have r6_ := Aside0.mk (Kd.R_below HO6.out hb); have r7_ := Aside0.mk (Kd.R_below HO7.out hb); have r8_ := Aside0.mk (Kd.R_below HO8.out hb); have r9_ := Aside0.mk (Kd.R_lower (R_not2 hr (blk_lt BK3.out) (blk_lt BK2.out)) (below_size HB.out)); clear hr; clear HB BK1 BK2 BK3 HO6 HO7 HO8 hb; have HB := n0_; have BK1 := m1_; have BK2 := m2_; have BK3 := m3_; have HO6 := r6_; have HO7 := r7_; have HO8 := r8_; have HO9 := r9_; clear n0_ m1_ m2_ m3_ r6_ r7_ r8_ r9_; clear hne hne2 hs9_v2 hc8_v2 hf8_v2; have hne := NE1_3.out; have hne2 := NE1_3.out.symm; have hs10_v3 := (show v3.cell? ⟨b1, 10, none⟩ = some (.slice A10 x.f10.length c10) from (blk_cell BK1.out 10).trans rfl); have hc9_v3 := (show v3.cell? ⟨b3, 9, none⟩ = some (.slice none 0 0) from (blk_cell BK3.out 9).trans rfl); have hf9_v3 := (show v3.frozen? ⟨b3, 9, none⟩ = false from blk_frozen BK3.out 9); have n0_ := Aside0.mk (show Below w.heap.size w (v3.setCell ⟨b3, 9, none⟩ (.slice B9 x.f9.length d9)) from (below_set HB.out GE3.out)); have n1_ := Aside0.mk (show (v3.setCell ⟨b3, 9, none⟩ (.slice B9 x.f9.length d9)).heap[b1]? = _ from (blk_far BK1.out NE1_3.out _)); have n2_ := Aside0.mk (show (v3.setCell ⟨b3, 9, none⟩ (.slice B9 x.f9.length d9)).heap[b2]? = _ from (blk_far BK2.out NE2_3.out _)); have n3_ : Aside0 ((v3.setCell ⟨b3, 9, none⟩ (.slice B9 x.f9.length d9)).heap[b3]? = some (.cells #[.int .i64 x.f0, .int .i64 x.f1, .int .i64 x.f2, .int .i64 x.f3, .int .i64 x.f4, .int .i64 x.f5, .slice B6 x.f6.length d6, .slice B7 x.f7.length d7, .slice B8 x.f8.length d8, .slice B9 x.f9.length d9, .slice none 0 0] 39 (0, 0))) := ⟨(blk_list BK3.out 9 _)⟩; have m6_ := Aside0.mk (show Kd.R k44 44 (v3.setCell ⟨b3, 9, none⟩ (.slice B9 x.f9.length d9)) _ _ _ _ from (Kd.R_far (p := ⟨b3, _, none⟩) HO6.out (fun k hk => hk.1) _)); have m7_ := Aside0.mk (show Kd.R (Kd.int .i64) 3 (v3.setCell ⟨b3, 9, none⟩ (.slice B9 x.f9.length d9)) _ _ _ _ from (Kd.R_far (p := ⟨b3, _, none⟩) HO7.out (fun k hk => hk.1) _)); have m8_ := Aside0.mk (show Kd.R k53 53 (v3.setCell ⟨b3, 9, none⟩ (.slice B9 x.f9.length d9)) _ _ _ _ from (Kd.R_far (p := ⟨b3, _, none⟩) HO8.out (fun k hk => hk.1) _)); have m9_ := Aside0.mk (show Kd.R k92 92 (v3.setCell ⟨b3, 9, none⟩ (.slice B9 x.f9.length d9)) _ _ _ _ from (Kd.R_far (p := ⟨b3, _, none⟩) HO9.out (fun k hk => hk.1) _)); clear HB BK1 BK2 BK3 HO6 HO7 HO8 HO9; have HB := n0_; have BK1 := n1_; have BK2 := n2_; have BK3 := n3_; have HO6 := m6_; have HO7 := m7_; have HO8 := m8_; have HO9 := m9_; clear n0_ n1_ n2_ n3_ m6_ m7_ m8_ m9_; clear tok3)
    | (go_at_call 33; have t_ := tok4; clear t_; (with_reducible refine (to33 x.f10 A10 c10 _ (Kd.C_below G10.out HB.out) L10.out SM10.out).mono ?_); rintro e v4 ⟨B10, d10, rfl, hr, hb⟩; have n0_ := Aside0.mk (below_step HB.out hb); have m1_ := Aside0.mk (blk_below BK1.out hb); have m2_ := Aside0.mk (blk_below BK2.out hb); have m3_ := Aside0.mk (blk_below BK3.out hb); have r6_ := Aside0.mk (Kd.R_below HO6.out hb); have r7_ := Aside0.mk (Kd.R_below HO7.out hb); have r8_ := Aside0.mk (Kd.R_below HO8.out hb); have r9_ := Aside0.mk (Kd.R_below HO9.out hb); have r10_ := Aside0.mk (Kd.R_lower (R_not2 hr (blk_lt BK3.out) (blk_lt BK2.out)) (below_size HB.out)); clear hr; clear HB BK1 BK2 BK3 HO6 HO7 HO8 HO9 hb; have HB := n0_; have BK1 := m1_; have BK2 := m2_; have BK3 := m3_; have HO6 := r6_; have HO7 := r7_; have HO8 := r8_; have HO9 := r9_; have HO10 := r10_; clear n0_ m1_ m2_ m3_ r6_ r7_ r8_ r9_ r10_; clear hne hne2 hs10_v3 hc9_v3 hf9_v3; have hne := NE1_3.out; have hne2 := NE1_3.out.symm; have hf10_v4 := (show v4.frozen? ⟨b3, 10, none⟩ = false from blk_frozen BK3.out 10); have hc0_v4 := (show v4.cell? ⟨b3, 0, none⟩ = some (.int .i64 x.f0) from (blk_cell BK3.out 0).trans rfl); have hc1_v4 := (show v4.cell? ⟨b3, 1, none⟩ = some (.int .i64 x.f1) from (blk_cell BK3.out 1).trans rfl); have hc2_v4 := (show v4.cell? ⟨b3, 2, none⟩ = some (.int .i64 x.f2) from (blk_cell BK3.out 2).trans rfl); have hc3_v4 := (show v4.cell? ⟨b3, 3, none⟩ = some (.int .i64 x.f3) from (blk_cell BK3.out 3).trans rfl); have hc4_v4 := (show v4.cell? ⟨b3, 4, none⟩ = some (.int .i64 x.f4) from (blk_cell BK3.out 4).trans rfl); have hc5_v4 := (show v4.cell? ⟨b3, 5, none⟩ = some (.int .i64 x.f5) from (blk_cell BK3.out 5).trans rfl); have hc6_v4 := (show v4.cell? ⟨b3, 6, none⟩ = some (.slice B6 x.f6.length d6) from (blk_cell BK3.out 6).trans rfl); have hc7_v4 := (show v4.cell? ⟨b3, 7, none⟩ = some (.slice B7 x.f7.length d7) from (blk_cell BK3.out 7).trans rfl); have hc8_v4 := (show v4.cell? ⟨b3, 8, none⟩ = some (.slice B8 x.f8.length d8) from (blk_cell BK3.out 8).trans rfl); have hc9_v4 := (show v4.cell? ⟨b3, 9, none⟩ = some (.slice B9 x.f9.length d9) from (blk_cell BK3.out 9).trans rfl); have hc10_v4 := (show v4.cell? ⟨b3, 10, none⟩ = some (.slice none 0 0) from (blk_cell BK3.out 10).trans rfl); have hz0_v4 := (show v4.cell? ⟨b2, 0, none⟩ = some (.int .i64 0) from (blk_cell BK2.out 0).trans rfl); have hz1_v4 := (show v4.cell? ⟨b2, 1, none⟩ = some (.int .i64 0) from (blk_cell BK2.out 1).trans rfl); have hz2_v4 := (show v4.cell? ⟨b2, 2, none⟩ = some (.int .i64 0) from (blk_cell BK2.out 2).trans rfl); have hz3_v4 := (show v4.cell? ⟨b2, 3, none⟩ = some (.int .i64 0) from (blk_cell BK2.out 3).trans rfl); have hz4_v4 := (show v4.cell? ⟨b2, 4, none⟩ = some (.int .i64 0) from (blk_cell BK2.out 4).trans rfl); have hz5_v4 := (show v4.cell? ⟨b2, 5, none⟩ = some (.int .i64 0) from (blk_cell BK2.out 5).trans rfl); have hz6_v4 := (show v4.cell? ⟨b2, 6, none⟩ = some (.slice none 0 0) from (blk_cell BK2.out 6).trans rfl); have hz7_v4 := (show v4.cell? ⟨b2, 7, none⟩ = some (.slice none 0 0) from (blk_cell BK2.out 7).trans rfl); have hz8_v4 := (show v4.cell? ⟨b2, 8, none⟩ = some (.slice none 0 0) from (blk_cell BK2.out 8).trans rfl); have hz9_v4 := (show v4.cell? ⟨b2, 9, none⟩ = some (.slice none 0 0) from (blk_cell BK2.out 9).trans rfl); have hz10_v4 := (show v4.cell? ⟨b2, 10, none⟩ = some (.slice none 0 0) from (blk_cell BK2.out 10).trans rfl); have hg0_v4 := (show v4.frozen? ⟨b2, 0, none⟩ = false from blk_frozen BK2.out 0); have hg1_v4 := (show v4.frozen? ⟨b2, 1, none⟩ = false from blk_frozen BK2.out 1); have hg2_v4 := (show v4.frozen? ⟨b2, 2, none⟩ = false from blk_frozen BK2.out 2); have hg3_v4 := (show v4.frozen? ⟨b2, 3, none⟩ = false from blk_frozen BK2.out 3); have hg4_v4 := (show v4.frozen? ⟨b2, 4, none⟩ = false from blk_frozen BK2.out 4); have hg5_v4 := (show v4.frozen? ⟨b2, 5, none⟩ = false from blk_frozen BK2.out 5); have hg6_v4 := (show v4.frozen? ⟨b2, 6, none⟩ = false from blk_frozen BK2.out 6); have hg7_v4 := (show v4.frozen? ⟨b2, 7, none⟩ = false from blk_frozen BK2.out 7); have hg8_v4 := (show v4.frozen? ⟨b2, 8, none⟩ = false from blk_frozen BK2.out 8); have hg9_v4 := (show v4.frozen? ⟨b2, 9, none⟩ = false from blk_frozen BK2.out 9); have hg10_v4 := (show v4.frozen? ⟨b2, 10, none⟩ = false from blk_frozen BK2.out 10); have hn3 := NE2_3.out; have hn4 := NE2_3.out.symm; have n0_ := Aside0.mk (show Below w.heap.size w (v4.setCell ⟨b3, 10, none⟩ (.slice B10 x.f10.length d10)) from (below_set HB.out GE3.out)); have n1_ := Aside0.mk (show (v4.setCell ⟨b3, 10, none⟩ (.slice B10 x.f10.length d10)).heap[b1]? = _ from (blk_far BK1.out NE1_3.out _)); have n2_ := Aside0.mk (show (v4.setCell ⟨b3, 10, none⟩ (.slice B10 x.f10.length d10)).heap[b2]? = _ from (blk_far BK2.out NE2_3.out _)); have n3_ : Aside0 ((v4.setCell ⟨b3, 10, none⟩ (.slice B10 x.f10.length d10)).heap[b3]? = some (.cells #[.int .i64 x.f0, .int .i64 x.f1, .int .i64 x.f2, .int .i64 x.f3, .int .i64 x.f4, .int .i64 x.f5, .slice B6 x.f6.length d6, .slice B7 x.f7.length d7, .slice B8 x.f8.length d8, .slice B9 x.f9.length d9, .slice B10 x.f10.length d10] 39 (0, 0))) := ⟨(blk_list BK3.out 10 _)⟩; have m6_ := Aside0.mk (show Kd.R k44 44 (v4.setCell ⟨b3, 10, none⟩ (.slice B10 x.f10.length d10)) _ _ _ _ from (Kd.R_far (p := ⟨b3, _, none⟩) HO6.out (fun k hk => hk.1) _)); have m7_ := Aside0.mk (show Kd.R (Kd.int .i64) 3 (v4.setCell ⟨b3, 10, none⟩ (.slice B10 x.f10.length d10)) _ _ _ _ from (Kd.R_far (p := ⟨b3, _, none⟩) HO7.out (fun k hk => hk.1) _)); have m8_ := Aside0.mk (show Kd.R k53 53 (v4.setCell ⟨b3, 10, none⟩ (.slice B10 x.f10.length d10)) _ _ _ _ from (Kd.R_far (p := ⟨b3, _, none⟩) HO8.out (fun k hk => hk.1) _)); have m9_ := Aside0.mk (show Kd.R k92 92 (v4.setCell ⟨b3, 10, none⟩ (.slice B10 x.f10.length d10)) _ _ _ _ from (Kd.R_far (p := ⟨b3, _, none⟩) HO9.out (fun k hk => hk.1) _)); have m10_ := Aside0.mk (show Kd.R (Kd.int .i64) 3 (v4.setCell ⟨b3, 10, none⟩ (.slice B10 x.f10.length d10)) _ _ _ _ from (Kd.R_far (p := ⟨b3, _, none⟩) HO10.out (fun k hk => hk.1) _)); clear HB BK1 BK2 BK3 HO6 HO7 HO8 HO9 HO10; have HB := n0_; have BK1 := n1_; have BK2 := n2_; have BK3 := n3_; have HO6 := m6_; have HO7 := m7_; have HO8 := m8_; have HO9 := m9_; have HO10 := m10_; clear n0_ n1_ n2_ n3_ m6_ m7_ m8_ m9_ m10_; clear tok4))
  refine bodyPost_ret (results_cell_row rfl _ _ b2 39 #[.int .i64 x.f0, .int .i64 x.f1, .int .i64 x.f2, .int .i64 x.f3, .int .i64 x.f4, .int .i64 x.f5, .slice B6 x.f6.length d6, .slice B7 x.f7.length d7, .slice B8 x.f8.length d8, .slice B9 x.f9.length d9, .slice B10 x.f10.length d10] (0, 0) _ rfl (blk_list (blk_list (blk_list (blk_list (blk_list (blk_list (blk_list (blk_list (blk_list (blk_list (blk_list BK2.out 0 _) 1 _) 2 _) 3 _) 4 _) 5 _) 6 _) 7 _) 8 _) 9 _) 10 _) Try.underlying39 rfl (by kernel_rfl)) rfl ?_
  exact ⟨B6, d6, B7, d7, B8, d8, B9, d9, B10, d10, rfl, Kd.R_mono (Kd.R_far (p := ⟨b2, _, none⟩) (Kd.R_far (p := ⟨b2, _, none⟩) (Kd.R_far (p := ⟨b2, _, none⟩) (Kd.R_far (p := ⟨b2, _, none⟩) (Kd.R_far (p := ⟨b2, _, none⟩) (Kd.R_far (p := ⟨b2, _, none⟩) (Kd.R_far (p := ⟨b2, _, none⟩) (Kd.R_far (p := ⟨b2, _, none⟩) (Kd.R_far (p := ⟨b2, _, none⟩) (Kd.R_far (p := ⟨b2, _, none⟩) (Kd.R_far (p := ⟨b2, _, none⟩) HO6.out (fun k hk => hk.2) _) (fun k hk => hk.2) _) (fun k hk => hk.2) _) (fun k hk => hk.2) _) (fun k hk => hk.2) _) (fun k hk => hk.2) _) (fun k hk => hk.2) _) (fun k hk => hk.2) _) (fun k hk => hk.2) _) (fun k hk => hk.2) _) (fun k hk => hk.2) _) (fun _ _ => trivial), Kd.R_mono (Kd.R_far (p := ⟨b2, _, none⟩) (Kd.R_far (p := ⟨b2, _, none⟩) (Kd.R_far (p := ⟨b2, _, none⟩) (Kd.R_far (p := ⟨b2, _, none⟩) (Kd.R_far (p := ⟨b2, _, none⟩) (Kd.R_far (p := ⟨b2, _, none⟩) (Kd.R_far (p := ⟨b2, _, none⟩) (Kd.R_far (p := ⟨b2, _, none⟩) (Kd.R_far (p := ⟨b2, _, none⟩) (Kd.R_far (p := ⟨b2, _, none⟩) (Kd.R_far (p := ⟨b2, _, none⟩) HO7.out (fun k hk => hk.2) _) (fun k hk => hk.2) _) (fun k hk => hk.2) _) (fun k hk => hk.2) _) (fun k hk => hk.2) _) (fun k hk => hk.2) _) (fun k hk => hk.2) _) (fun k hk => hk.2) _) (fun k hk => hk.2) _) (fun k hk => hk.2) _) (fun k hk => hk.2) _) (fun _ _ => trivial), Kd.R_mono (Kd.R_far (p := ⟨b2, _, none⟩) (Kd.R_far (p := ⟨b2, _, none⟩) (Kd.R_far (p := ⟨b2, _, none⟩) (Kd.R_far (p := ⟨b2, _, none⟩) (Kd.R_far (p := ⟨b2, _, none⟩) (Kd.R_far (p := ⟨b2, _, none⟩) (Kd.R_far (p := ⟨b2, _, none⟩) (Kd.R_far (p := ⟨b2, _, none⟩) (Kd.R_far (p := ⟨b2, _, none⟩) (Kd.R_far (p := ⟨b2, _, none⟩) (Kd.R_far (p := ⟨b2, _, none⟩) HO8.out (fun k hk => hk.2) _) (fun k hk => hk.2) _) (fun k hk => hk.2) _) (fun k hk => hk.2) _) (fun k hk => hk.2) _) (fun k hk => hk.2) _) (fun k hk => hk.2) _) (fun k hk => hk.2) _) (fun k hk => hk.2) _) (fun k hk => hk.2) _) (fun k hk => hk.2) _) (fun _ _ => trivial), Kd.R_mono (Kd.R_far (p := ⟨b2, _, none⟩) (Kd.R_far (p := ⟨b2, _, none⟩) (Kd.R_far (p := ⟨b2, _, none⟩) (Kd.R_far (p := ⟨b2, _, none⟩) (Kd.R_far (p := ⟨b2, _, none⟩) (Kd.R_far (p := ⟨b2, _, none⟩) (Kd.R_far (p := ⟨b2, _, none⟩) (Kd.R_far (p := ⟨b2, _, none⟩) (Kd.R_far (p := ⟨b2, _, none⟩) (Kd.R_far (p := ⟨b2, _, none⟩) (Kd.R_far (p := ⟨b2, _, none⟩) HO9.out (fun k hk => hk.2) _) (fun k hk => hk.2) _) (fun k hk => hk.2) _) (fun k hk => hk.2) _) (fun k hk => hk.2) _) (fun k hk => hk.2) _) (fun k hk => hk.2) _) (fun k hk => hk.2) _) (fun k hk => hk.2) _) (fun k hk => hk.2) _) (fun k hk => hk.2) _) (fun _ _ => trivial), Kd.R_mono (Kd.R_far (p := ⟨b2, _, none⟩) (Kd.R_far (p := ⟨b2, _, none⟩) (Kd.R_far (p := ⟨b2, _, none⟩) (Kd.R_far (p := ⟨b2, _, none⟩) (Kd.R_far (p := ⟨b2, _, none⟩) (Kd.R_far (p := ⟨b2, _, none⟩) (Kd.R_far (p := ⟨b2, _, none⟩) (Kd.R_far (p := ⟨b2, _, none⟩) (Kd.R_far (p := ⟨b2, _, none⟩) (Kd.R_far (p := ⟨b2, _, none⟩) (Kd.R_far (p := ⟨b2, _, none⟩) HO10.out (fun k hk => hk.2) _) (fun k hk => hk.2) _) (fun k hk => hk.2) _) (fun k hk => hk.2) _) (fun k hk => hk.2) _) (fun k hk => hk.2) _) (fun k hk => hk.2) _) (fun k hk => hk.2) _) (fun k hk => hk.2) _) (fun k hk => hk.2) _) (fun k hk => hk.2) _) (fun _ _ => trivial), (below_set (below_set (below_set (below_set (below_set (below_set (below_set (below_set (below_set (below_set (below_set HB.out GE2.out) GE2.out) GE2.out) GE2.out) GE2.out) GE2.out) GE2.out) GE2.out) GE2.out) GE2.out) GE2.out)⟩
def smL60 (l : List S60) : Prop := l.length ≤ 1048576 ∧ ∀ j, sm60 (l.getD j z60)
theorem cv60_at (l : List S60) (j : Nat) (h : j < l.length) : (l.map cv60).getD j z39 = cv60 (l.getD j z60) := by simp [List.getD, h]
set_option maxHeartbeats 4000000 in
set_option maxRecDepth 100000 in
theorem to11 (l : List S60) (A0 : Option Addr) (c0 : Nat) (w : World) (hr : Kd.C k60 w A0 l.length l) (hc : l.length ≤ c0) (hs : smL60 l) :
    Calls Try.prog 11 #[.slice A0 l.length c0] w fun e w' => ∃ (A : Option Addr) (c : Nat), e = .returned (.slice A l.length c) ∧ Kd.R k39 39 w' w.heap.size (fun _ => True) (.slice A l.length c) (l.map cv60) ∧ Below w.heap.size w w' := by
  have hl : l.length ≤ 1048576 := hs.1
  have HLL := Aside0.mk hl
  have HS := Aside0.mk hs
  have HR := Aside0.mk hr
  have h00 : 0 ≤ (l.length : Int) := by omega
  clear hr hs hl
  have HB := Aside0.mk (Below.refl w.heap.size w)
  go_enter Try.func11, Try.ntmps11
  go_wp2_with (first | ((with_reducible refine gate_dst (N := 7) rfl ?_); refine Kd.R_make k39 _ 39 rfl (N := 7) rfl 27 _ _ rfl (l.length : Int) rfl rfl Try.underlying27 (.agg #[(.int .i64 0), (.int .i64 0), (.int .i64 0), (.int .i64 0), (.int .i64 0), (.int .i64 0), (.slice none 0 0), (.slice none 0 0), (.slice none 0 0), (.slice none 0 0), (.slice none 0 0)]) 168 info39 rfl (by decide) (by decide) z39 (ok := fun _ => True) (okp := fun _ => True) (k39_mkM _ _ _ z39 (Kd.R_nil _ _ _ _ _) (Kd.R_nil _ _ _ _ _) (Kd.R_nil _ _ _ _ _) (Kd.R_nil _ _ _ _ _) (Kd.R_nil _ _ _ _ _)) (fun _ hk => hk) trivial h00 (by have := HLL.out; simp only [Int.toNat_natCast]; omega) (Below.refl _ _) (Nat.le_refl _) ?_; intro vo w4 ho hb hg_ hn_; rw [Int.toNat_natCast] at ho; have HO := Aside0.mk (Kd.R_lower ho (below_size HB.out)); have n0_ := Aside0.mk (below_step HB.out hb); clear HB ho hb hg_ hn_; have HB := n0_; clear n0_))
  go_loopw [4] (fun v w' => ∃ (n i : Nat) (xs : List S39), v = .int .i64 (i : Int) ∧ Aside0 (i + n = l.length ∧ xs.length = l.length ∧ xs.take i = ((l.map cv60)).take i) ∧ Aside0 (Kd.R k39 39 w' w.heap.size (fun _ => True) vo xs) ∧ Aside0 (Below w.heap.size w w')) (fun v _ => l.length - (intOf v).toNat)
  case atStart => exact ⟨l.length, 0, _, rfl, ⟨by omega, List.length_replicate, rfl⟩, HO, HB⟩
  case round =>
    clear HO
    obtain ⟨n, i, xs, rfl, HI, HO, HB⟩ := hrel
    cases n with
    | zero =>
      have hlt : decide ((i : Int) < (l.length : Int)) = false := decide_eq_false (by have := HI.out; omega)
      have hlt2 : decide (i < l.length) = false := decide_eq_false (by have := HI.out; omega)
      have HE := Aside0.mk (show xs = (l.map cv60) by have h := HI.out; rw [← List.take_of_length_le (show xs.length ≤ i by omega), h.2.2, List.take_of_length_le (by first | omega | (rw [List.length_map]; omega))])
      have HO2 : Aside0 (Kd.R k39 39 wr w.heap.size (fun _ => True) vo (l.map cv60)) := ⟨HE.out ▸ HO.out⟩
      obtain ⟨A, c, e9⟩ := Kd.R_slice HO2.out
      replace e9 : vo = .slice A l.length c := e9.trans (by first | rfl | simp)
      go_wp2
      go_ret
      exact ⟨A, c, congrArg Ending.returned e9, e9 ▸ HO2.out, HB.out⟩
    | succ n =>
      have hlt : decide ((i : Int) < (l.length : Int)) = true := decide_eq_true (by have := HI.out; omega)
      have hlt2 : decide (i < l.length) = true := decide_eq_true (by have := HI.out; omega)
      have q0 : (0 : Int) ≤ (i : Int) := by omega
      have q1 : (i : Int) < (l.length : Int) := by have := HI.out; omega
      have q2 : (i < l.length) = True := eq_true (by have := HI.out; omega)
      have HW := Aside0.mk (show wrap64 ((i : Int) + 1) = ((i + 1 : Nat) : Int) by have := HI.out; have := HLL.out; unfold wrap64; omega)
      have HL := Aside0.mk (show i < l.length by have := HI.out; omega)
      obtain ⟨g, cap, e9, hge, hlt9, _⟩ := Kd.R_form HO.out (by have := HI.out; omega)
      rw [HI.out.2.1] at e9
      subst e9
      have GE := Aside0.mk hge
      have GL := Aside0.mk hlt9
      clear hge hlt9
      obtain ⟨ad, A6, c6, A7, c7, A8, c8, A9, c9, A10, c10, ea, hx0, hx1, hx2, hx3, hx4, hx5, hx6, hx7, hx8, hx9, hx10, l6, g6, l7, g7, l8, g8, l9, g9, l10, g10⟩ := at_T60 (Kd.C_below HR.out HB.out) (i : Int) q0 q1
      subst ea
      simp only [Int.toNat_natCast] at hx0 hx1 hx2 hx3 hx4 hx5 hx6 hx7 hx8 hx9 hx10
      obtain ⟨x, hX⟩ : ∃ x, rd_T60 l (i : Int) = x := ⟨_, rfl⟩
      rw [hX] at hx0 hx1 hx2 hx3 hx4 hx5 hx6 hx7 hx8 hx9 hx10
      simp only [hX] at g6 l6 g7 l7 g8 l8 g9 l9 g10 l10
      have G6 := Aside0.mk g6
      have L6 := Aside0.mk l6
      have G7 := Aside0.mk g7
      have L7 := Aside0.mk l7
      have G8 := Aside0.mk g8
      have L8 := Aside0.mk l8
      have G9 := Aside0.mk g9
      have L9 := Aside0.mk l9
      have G10 := Aside0.mk g10
      have L10 := Aside0.mk l10
      have HXX := Aside0.mk (show l.getD i z60 = x from hX)
      have HSX := Aside0.mk (show sm60 x by rw [← HXX.out]; exact HS.out.2 i)
      clear hX g6 l6 g7 l7 g8 l8 g9 l9 g10 l10
      replace q0 := eq_true q0
      replace q1 := eq_true q1
      go_wp2_with (first
        | (go_at_call 19; (with_reducible refine (to19 x A6 c6 A7 c7 A8 c8 A9 c9 A10 c10 _ G6.out L6.out G7.out L7.out G8.out L8.out G9.out L9.out G10.out L10.out HSX.out).mono ?_); rintro e w9 ⟨B6, d6, B7, d7, B8, d8, B9, d9, B10, d10, rfl, r6, r7, r8, r9, r10, hb⟩; have r6_ := Aside0.mk (Kd.R_lower (R_not1 r6 GL.out) (below_size HB.out)); have r7_ := Aside0.mk (Kd.R_lower (R_not1 r7 GL.out) (below_size HB.out)); have r8_ := Aside0.mk (Kd.R_lower (R_not1 r8 GL.out) (below_size HB.out)); have r9_ := Aside0.mk (Kd.R_lower (R_not1 r9 GL.out) (below_size HB.out)); have r10_ := Aside0.mk (Kd.R_lower (R_not1 r10 GL.out) (below_size HB.out)); have n0_ := Aside0.mk (below_step HB.out hb); have n1_ := Aside0.mk (Kd.R_below HO.out hb); clear HB HO hb r6 r7 r8 r9 r10; have HB := n0_; have HO := n1_; clear n0_ n1_; obtain ⟨co, hcl, _, hcc, hfr⟩ := Kd.R_elem HO.out z39 (i : Int) (of_eq_true q0) (by have := HL.out; omega); obtain ⟨y0, y1, y2, y3, y4, y5, y6, y7, y8, y9, y10, rfl⟩ := list_11 co hcl; have HCL := Aside0.mk hcl; have HCC := Aside0.mk hcc; clear hcl hcc hfr)
        | ((with_reducible refine gate_store (t := 39) (p := 21) rfl ?_); refine Kd.R_store k39 (w0 := w) w.heap.size rfl rfl 39 (.tmp 21) (.tmp 20) rfl 39 (i : Int) 0 xs (cv60 x) _ [.int .i64 x.f0, .int .i64 x.f1, .int .i64 x.f2, .int .i64 x.f3, .int .i64 x.f4, .int .i64 x.f5, .slice B6 x.f6.length d6, .slice B7 x.f7.length d7, .slice B8 x.f8.length d8, .slice B9 x.f9.length d9, .slice B10 x.f10.length d10] [y0, y1, y2, y3, y4, y5, y6, y7, y8, y9, y10] (fun _ => True) (fun k => k ≠ g) rfl ?h1 rfl rfl (by kernel_rfl) (by simp [Value.oneCell']) HO.out (of_eq_true q0) (by have := HL.out; omega) HCL.out HCC.out (show 0 + 11 ≤ 11 by decide) (k39_mkM w9 w.heap.size (fun k => k ≠ g) (cv60 x) r6_.out r7_.out r8_.out r9_.out r10_.out) (fun k hk => ⟨trivial, hk⟩) HB.out ?_; (case h1 => first | rfl | simp [show (k39).sz = 1 from rfl]); intro w10 ho hb hg; have n0_ := Aside0.mk ho; have n1_ := Aside0.mk hb; clear HO HB ho hb hg; have HO := n0_; have HB := n1_; clear n0_ n1_; rw [Int.toNat_natCast] at HO))
      have HX := Aside0.mk (show (xs.set i (cv60 x)).take (i + 1) = ((l.map cv60)).take (i + 1) from take_set_step xs ((l.map cv60)) i (by have := HI.out; omega) (by first | exact HL.out | (rw [List.length_map]; exact HL.out)) HI.out.2.2 _ _ ((cv60_at l i HL.out).trans (congrArg cv60 HXX.out)))
      go_roundw
      case rel => exact ⟨n, i + 1, xs.set i (cv60 x), congrArg (Value.int .i64) HW.out, ⟨by have := HI.out; omega, by rw [List.length_set]; exact HI.out.2.1, HX.out⟩, HO, HB⟩
      case measure => rw [HW.out]; have := HL.out; show l.length - ((i + 1 : Nat) : Int).toNat < l.length - ((i : Nat) : Int).toNat; omega
structure S24 where
  f0 : List S60
structure S29 where
  f0 : List S39
def cv24 (x : S24) : S29 := ⟨(x.f0.map cv60)⟩
def sm24 (x : S24) : Prop := smL60 x.f0 ∧ True
set_option maxHeartbeats 4000000 in
set_option maxRecDepth 100000 in
theorem to6 (x : S24) (A0 : Option Addr) (c0 : Nat) (w : World) (g0 : Kd.C k60 w A0 x.f0.length x.f0) (l0 : x.f0.length ≤ c0) (hs : sm24 x) :
    Calls Try.prog 6 #[.agg #[.slice A0 x.f0.length c0]] w fun e w' => ∃ (B0 : Option Addr) (d0 : Nat), e = .returned (.agg #[.slice B0 x.f0.length d0]) ∧ Kd.R k39 39 w' w.heap.size (fun _ => True) (.slice B0 x.f0.length d0) (x.f0.map cv60) ∧ Below w.heap.size w w' := by
  have hu := Try.underlying24
  have hv := Try.underlying29
  have G0 := Aside0.mk g0
  have L0 := Aside0.mk l0
  obtain ⟨s0, _⟩ := hs
  have SM0 := Aside0.mk s0
  clear g0 l0 s0
  have HB := Aside0.mk (Below.refl w.heap.size w)
  go_enter Try.func6, Try.ntmps6
  have tok0 : True := trivial
  go_wp2_with (first
    | ((with_reducible refine gate_dst (N := 1) rfl ?_); refine box_event ?hg (N := 1) ?hd (cs := #[.slice A0 x.f0.length c0]) (t := 24) ?hr ?_; (case hd => rfl); (case hg => rfl); (case hr => first | (go_simp; done) | (go_simp; rfl)); intro b1 hg w1 hbox hb; have GE1 := Aside0.mk (show w.heap.size ≤ b1 by rw [hg]; exact below_size HB.out); have n9_ := Aside0.mk (below_step HB.out hb); clear HB; have HB := n9_; clear n9_; have BK1 := Aside0.mk hbox; clear hbox hg hb)
    | ((with_reducible refine gate_dst (N := 2) rfl ?_); refine box_event ?hg (N := 2) ?hd (cs := #[.slice none 0 0]) (t := 29) ?hr ?_; (case hd => rfl); (case hg => rfl); (case hr => first | (go_simp; done) | (go_simp; rfl)); intro b2 hg w2 hbox hb; have GE2 := Aside0.mk (show w.heap.size ≤ b2 by rw [hg]; exact below_size HB.out); have n1_ := Aside0.mk (blk_below BK1.out hb); have NE1_2 := Aside0.mk (show b1 ≠ b2 by rw [hg]; exact Nat.ne_of_lt (blk_lt BK1.out)); clear BK1; have BK1 := n1_; clear n1_; have n9_ := Aside0.mk (below_step HB.out hb); clear HB; have HB := n9_; clear n9_; have BK2 := Aside0.mk hbox; clear hbox hg hb)
    | ((with_reducible refine gate_dst (N := 3) rfl ?_); refine box_event ?hg (N := 3) ?hd (cs := #[.slice none 0 0]) (t := 29) ?hr ?_; (case hd => rfl); (case hg => rfl); (case hr => first | (go_simp; done) | (go_simp; rfl)); intro b3 hg w3 hbox hb; have GE3 := Aside0.mk (show w.heap.size ≤ b3 by rw [hg]; exact below_size HB.out); have n1_ := Aside0.mk (blk_below BK1.out hb); have NE1_3 := Aside0.mk (show b1 ≠ b3 by rw [hg]; exact Nat.ne_of_lt (blk_lt BK1.out)); clear BK1; have BK1 := n1_; clear n1_; have n2_ := Aside0.mk (blk_below BK2.out hb); have NE2_3 := Aside0.mk (show b2 ≠ b3 by rw [hg]; exact Nat.ne_of_lt (blk_lt BK2.out)); clear BK2; have BK2 := n2_; clear n2_; have n9_ := Aside0.mk (below_step HB.out hb); clear HB; have HB := n9_; clear n9_; have BK3 := Aside0.mk hbox; clear hbox hg hb; have hne := NE1_3.out; have hne2 := NE1_3.out.symm; have hs0_w3 := (show w3.cell? ⟨b1, 0, none⟩ = some (.slice A0 x.f0.length c0) from (blk_cell BK1.out 0).trans rfl))
    | (go_at_call 11; have t_ := tok0; clear t_; (with_reducible refine (to11 x.f0 A0 c0 _ (Kd.C_below G0.out HB.out) L0.out SM0.out).mono ?_); rintro e v0 ⟨B0, d0, rfl, hr, hb⟩; have n0_ := Aside0.mk (below_step HB.out hb); have m1_ := Aside0.mk (blk_below BK1.out hb); have m2_ := Aside0.mk (blk_below BK2.out hb); have m3_ := Aside0.mk (blk_below BK3.out hb); have r0_ := Aside0.mk (Kd.R_lower (R_not2 hr (blk_lt BK3.out) (blk_lt BK2.out)) (below_size HB.out)); clear hr; clear HB BK1 BK2 BK3 hb; have HB := n0_; have BK1 := m1_; have BK2 := m2_; have BK3 := m3_; have HO0 := r0_; clear n0_ m1_ m2_ m3_ r0_; clear hne hne2 hs0_w3; have hne := NE1_3.out; have hne2 := NE1_3.out.symm; have hf0_v0 := (show v0.frozen? ⟨b3, 0, none⟩ = false from blk_frozen BK3.out 0); have hc0_v0 := (show v0.cell? ⟨b3, 0, none⟩ = some (.slice none 0 0) from (blk_cell BK3.out 0).trans rfl); have hz0_v0 := (show v0.cell? ⟨b2, 0, none⟩ = some (.slice none 0 0) from (blk_cell BK2.out 0).trans rfl); have hg0_v0 := (show v0.frozen? ⟨b2, 0, none⟩ = false from blk_frozen BK2.out 0); have hn3 := NE2_3.out; have hn4 := NE2_3.out.symm; have n0_ := Aside0.mk (show Below w.heap.size w (v0.setCell ⟨b3, 0, none⟩ (.slice B0 x.f0.length d0)) from (below_set HB.out GE3.out)); have n1_ := Aside0.mk (show (v0.setCell ⟨b3, 0, none⟩ (.slice B0 x.f0.length d0)).heap[b1]? = _ from (blk_far BK1.out NE1_3.out _)); have n2_ := Aside0.mk (show (v0.setCell ⟨b3, 0, none⟩ (.slice B0 x.f0.length d0)).heap[b2]? = _ from (blk_far BK2.out NE2_3.out _)); have n3_ : Aside0 ((v0.setCell ⟨b3, 0, none⟩ (.slice B0 x.f0.length d0)).heap[b3]? = some (.cells #[.slice B0 x.f0.length d0] 29 (0, 0))) := ⟨(blk_list BK3.out 0 _)⟩; have m0_ := Aside0.mk (show Kd.R k39 39 (v0.setCell ⟨b3, 0, none⟩ (.slice B0 x.f0.length d0)) _ _ _ _ from (Kd.R_far (p := ⟨b3, _, none⟩) HO0.out (fun k hk => hk.1) _)); clear HB BK1 BK2 BK3 HO0; have HB := n0_; have BK1 := n1_; have BK2 := n2_; have BK3 := n3_; have HO0 := m0_; clear n0_ n1_ n2_ n3_ m0_; clear tok0))
  refine bodyPost_ret (results_cell_row rfl _ _ b2 29 #[.slice B0 x.f0.length d0] (0, 0) _ rfl (blk_list BK2.out 0 _) Try.underlying29 rfl (by kernel_rfl)) rfl ?_
  exact ⟨B0, d0, rfl, Kd.R_mono (Kd.R_far (p := ⟨b2, _, none⟩) HO0.out (fun k hk => hk.2) _) (fun _ _ => trivial), (below_set HB.out GE2.out)⟩
end Go.Proofs.Ytphlfmgllbpbhaa.QFnExactSafePlan
