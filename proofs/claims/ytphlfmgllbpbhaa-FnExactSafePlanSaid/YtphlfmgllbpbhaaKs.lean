/- Proved: what impl.Expr.kinds answers (the kids' kinds), and what a tree's shape says of kids. Conditions: each kid is a node of the list. -/
import Derived.Test.YtphlfmgllbpbhaaTab
namespace Go.Proofs.Ytphlfmgllbpbhaa.QFnExactSafePlan
open Go.RowKit Go.Proofs.YtphlfmgllbpbhaaW.PrintWords Go.Proofs.YtphlfmgllbpbhaaW.PrintLast Go.Proofs.YtphlfmgllbpbhaaW.PrintMore
set_option linter.unusedVariables false
set_option linter.unusedSimpArgs false
theorem stIn_kids {st ks : List Int} (h : StOk st) : ∀ (k : Nat) (s r : Int), 0 ≤ s → s ≤ (st.length : Int) → stIn st ks k s = some r → ∀ q, q < k → 0 ≤ ks.getD q 0 ∧ ks.getD q 0 < s
  | 0, _, _, _, _, _, q, hq => absurd hq (Nat.not_lt_zero _)
  | k + 1, s, r, h0, h1, e, q, hq => by
    unfold stIn at e
    by_cases c : s = 0 ∨ ks.getD k 0 ≠ s - 1
    · rw [if_pos c] at e; cases e
    · rw [if_neg c] at e
      have hs : s ≠ 0 := fun h => c (.inl h)
      have hk : ks.getD k 0 = s - 1 := Classical.byContradiction fun h => c (.inr h)
      have h2 := h (s - 1).toNat (by omega)
      by_cases d : q = k
      · subst d; omega
      · have h3 := stIn_kids h k _ r h2.1 (by omega) e q (by omega)
        omega
theorem shape_kids {l : List S49} (h : okShape l = true) (j : Nat) (hj : j < l.length) (q : Nat) (hq : q < (l.getD j z49).f5.length) : 0 ≤ (l.getD j z49).f5.getD q 0 ∧ (l.getD j z49).f5.getD q 0 < (l.length : Int) := by
  cases e : stGo l (j + 1) with
  | none => rw [shape_none hj e] at h; cases h
  | some st1 =>
    unfold stGo at e
    obtain ⟨st, e1, e2⟩ := Option.bind_eq_some_iff.1 e
    obtain ⟨s, e3, _⟩ := Option.map_eq_some_iff.1 e2
    obtain ⟨g1, g2⟩ := stGo_ok j st e1
    have := stIn_kids g2 _ _ s (by omega) (by omega) e3 q hq
    omega
set_option maxHeartbeats 8000000 in
set_option maxRecDepth 100000 in
theorem kinds14 (l : List S49) (A0 : Option Addr) (c0 : Nat) (ks : List Int) (A1 : Option Addr) (c1 : Nat) (w : World) (hr : Kd.C k49 w A0 l.length l) (hr1 : Kd.C (Kd.int .i64) w A1 ks.length ks) (hl : ks.length ≤ 1048576) (hk : ∀ q, q < ks.length → 0 ≤ ks.getD q 0 ∧ ks.getD q 0 < (l.length : Int)) :
    Calls Try.prog 14 #[.agg #[.slice A0 l.length c0], .slice A1 ks.length c1] w fun e w' => ∃ v : Value, e = .returned v ∧ Kd.R (Kd.int .i64) 3 w' w.heap.size (fun _ => True) v (ks.map fun k => (rd_T49 l k).f1) ∧ Below w.heap.size w w' := by
  have hu := Try.underlying49
  have hv := Try.underlying44
  have HR := Aside0.mk hr
  have HR1 := Aside0.mk hr1
  have HLL := Aside0.mk hl
  have HKK := Aside0.mk hk
  clear hr hr1 hl hk
  have HB := Aside0.mk (Below.refl w.heap.size w)
  go_enter Try.func14, Try.ntmps14
  go_wp2_with (first | ((with_reducible refine gate_dst (N := 2) rfl ?_); refine box_event ?hg (N := 2) ?hd (cs := #[.slice A0 l.length c0]) (t := 44) ?hr ?_; (case hd => rfl); (case hg => rfl); (case hr => first | (go_simp; done) | (go_simp; rfl)); intro b2 hg w2 hbox hb; have n0_ := Aside0.mk (below_step HB.out hb); clear HB; have HB := n0_; clear n0_; have BK2 := Aside0.mk hbox; clear hbox hg hb; have hc2_0 := (show w2.cell? ⟨b2, 0, none⟩ = some (.slice A0 l.length c0) from (blk_cell BK2.out 0).trans rfl)))
  have HO : Aside0 (Kd.R (Kd.int .i64) 3 w2 w.heap.size (fun _ => True) (.slice none 0 0) []) := ⟨Kd.R_nil _ _ _ _ _⟩
  go_loopw [4, 9] (fun u4 v w' => ∃ (n i : Nat) (o : Value) (xs : List Int), v = .int .i64 (i : Int) ∧ u4 = o ∧ Aside0 (i + n = ks.length) ∧ Aside0 (xs.length = i ∧ xs = (ks.map fun k => (rd_T49 l k).f1).take i) ∧ Aside0 (Kd.R (Kd.int .i64) 3 w' w.heap.size (fun _ => True) o xs) ∧ Aside0 (w'.heap[b2]? = some (.cells #[.slice A0 l.length c0] 44 (0, 0))) ∧ Aside0 (Below w.heap.size w w')) (fun _ v _ => ks.length - (intOf v).toNat)
  case atStart => exact ⟨ks.length, 0, _, [], rfl, rfl, ⟨by omega⟩, ⟨rfl, rfl⟩, HO, BK2, HB⟩
  case round =>
    clear HB BK2 HO hc2_0
    obtain ⟨n, i, o, xs, rfl, rfl, HI, HX, HO, BK2, HB⟩ := hrel
    have hc2_0 := (show wr.cell? ⟨b2, 0, none⟩ = some (.slice A0 l.length c0) from (blk_cell BK2.out 0).trans rfl)
    have hf2_0 := blk_frozen BK2.out 0
    cases n with
    | zero =>
      have hlt : decide ((i : Int) < (ks.length : Int)) = false := decide_eq_false (by have := HI.out; omega)
      have hlt2 : decide (i < ks.length) = false := decide_eq_false (by have := HI.out; omega)
      have HE := Aside0.mk (show xs = (ks.map fun k => (rd_T49 l k).f1) by rw [HX.out.2, List.take_of_length_le (by rw [List.length_map]; have := HI.out; omega)])
      go_wp2
      go_ret
      exact ⟨_, rfl, by rw [← HE.out]; exact HO.out, HB.out⟩
    | succ n =>
      have hlt : decide ((i : Int) < (ks.length : Int)) = true := decide_eq_true (by have := HI.out; omega)
      have hlt2 : decide (i < ks.length) = true := decide_eq_true (by have := HI.out; omega)
      have q0 : (0 : Int) ≤ (i : Int) := by omega
      have q1 : (i : Int) < (ks.length : Int) := by have := HI.out; omega
      have q2 : (i < ks.length) = True := eq_true (by have := HI.out; omega)
      have HW := Aside0.mk (show wrap64 ((i : Int) + 1) = ((i + 1 : Nat) : Int) by have := HI.out; have := HLL.out; unfold wrap64; omega)
      have HL := Aside0.mk (show i < ks.length by have := HI.out; omega)
      obtain ⟨a1, e1, hy⟩ := Kd.at_int (Kd.C_below HR1.out HB.out) (i : Int) q0 q1
      subst e1
      obtain ⟨k, hK⟩ : ∃ k, rd ks (i : Int) = k := ⟨_, rfl⟩
      rw [hK, Int.toNat_natCast] at hy
      have HKE := Aside0.mk (show ks.getD i 0 = k from hK)
      have p0 : 0 ≤ k := by rw [← HKE.out]; exact (HKK.out i HL.out).1
      have p1 : k < (l.length : Int) := by rw [← HKE.out]; exact (HKK.out i HL.out).2
      obtain ⟨ad, A7, c7, ea, hx0, hx1, hx2, hx3, hx4, hx5, hx6, hx7, l7, g7⟩ := at_T49 (Kd.C_below HR.out HB.out) k p0 p1
      subst ea
      obtain ⟨z, hZ⟩ : ∃ z, (rd_T49 l k).f1 = z := ⟨_, rfl⟩
      rw [hZ] at hx1
      have HXE := Aside0.mk (show xs ++ [z] = (ks.map fun k => (rd_T49 l k).f1).take (i + 1) by
        rw [List.take_succ_eq_append_getElem (by rw [List.length_map]; exact HL.out), ← HX.out.2, ← hZ, ← HKE.out]
        simp [List.getD, HL.out])
      clear hK hZ l7 g7 hx0 hx2 hx3 hx4 hx5 hx6 hx7
      replace q0 := eq_true q0
      replace q1 := eq_true q1
      replace p0 := eq_true p0
      replace p1 := eq_true p1
      go_wp2_with (first | ((with_reducible refine gate_builtin (b := .append) (xs := #[.tmp 13, .tmp 20]) rfl ?_); at_builtin; refine Kd.R_append (Kd.int .i64) (w0 := w) w.heap.size rfl (.tmp 13) (.tmp 20) 35 3 (.int .i64 0) 8 rfl Try.underlying35 info3 rfl (by decide) (by omega) u4 xs z [.int .i64 z] (fun _ => True) (fun _ => False) rfl rfl ?aP (fun _ hk => hk.elim) ?aF ?aO ?aB ?aS ?aL ?_; (case aP => exact rfl); (case aB => exact (by repeat (first | (with_reducible first | exact HB.out | apply below_alloc | apply pw_below_drewN | apply below_drew1) | exact HB.out))); (case aF => exact (fun _ _ => trivial)); (case aO => exact (by (with_reducible repeat (first | apply Kd.R_alloc | apply Kd.R_drewN | apply Kd.R_drew)); exact HO.out)); (case aS => exact (below_size (by repeat (first | (with_reducible first | exact HB.out | apply below_alloc | apply pw_below_drewN | apply below_drew1) | exact HB.out)))); (case aL => have h1 := HX.out.1; have h2 := HL.out; have h3 := HLL.out; omega); intro v300 w11 ho hb hg hat; have n0_ := Aside0.mk (blk_grown (g := b2) (o := .cells #[.slice (some ad) l.length c0] 44 (0, 0)) (by (with_reducible repeat (first | refine blk_drewN ?_ _ | refine blk_drew ?_ | refine blk_alloc ?_ _)); exact BK2.out) hg (Kd.R_ne HO.out BK2.out (by decide))); have n1_ := Aside0.mk (hb); have n2_ := Aside0.mk (ho); clear BK2; clear HB; clear HO; have BK2 := n0_; have HB := n1_; have HO := n2_; clear n0_ n1_ n2_; clear ho hb hg hat))
      go_roundw
      case rel => exact ⟨n, i + 1, _, xs ++ [z], (by first | exact congrArg (Value.int .i64) HW.out | go_num), rfl, ⟨by have := HI.out; omega⟩, ⟨by rw [List.length_append, HX.out.1]; rfl, HXE.out⟩, HO, BK2, HB⟩
      case measure => rw [HW.out]; have := HL.out; show ks.length - ((i + 1 : Nat) : Int).toNat < ks.length - ((i : Nat) : Int).toNat; omega
end Go.Proofs.Ytphlfmgllbpbhaa.QFnExactSafePlan
