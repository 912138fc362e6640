/- Proved: what laws' functions szX answer: a number, and where it is not negative, no list is long. Conditions: the arguments are read, their strings are no longer than memory. -/
import Derived.Test.YtphlfmgllbpbhaaTo
namespace Go.Proofs.Ytphlfmgllbpbhaa.QFnExactSafePlan
open Go.RowKit Go.Proofs.YtphlfmgllbpbhaaW.PrintWords Go.Proofs.YtphlfmgllbpbhaaW.PrintLast Go.Proofs.YtphlfmgllbpbhaaW.PrintMore
set_option linter.unusedVariables false
set_option linter.unusedSimpArgs false
def bd102 (x : S102) : Prop := x.f2.size ≤ 281474976710656 ∧ True
set_option maxHeartbeats 4000000 in
set_option maxRecDepth 100000 in
theorem sz60 (x : S102) (a : Int) (w : World) (hb : bd102 x) (h0 : 0 ≤ a) (h1 : a ≤ 1048576) :
    Calls Try.prog 60 #[.agg #[.int .i64 x.f0, .int .i64 x.f1, .string x.f2], .int .i64 a] w fun e w' => ∃ r : Int, e = .returned (.int .i64 r) ∧ -1 ≤ r ∧ r ≤ a ∧ (0 ≤ r → sm102 x) ∧ Below w.heap.size w w' := by
  have hu := Try.underlying102
  have HBD := Aside0.mk hb
  clear hb
  have HB := Aside0.mk (Below.refl w.heap.size w)
  obtain ⟨s2, _⟩ := HBD.out
  go_enter Try.func60, Try.ntmps60
  go_wp2_with (first
    | ((with_reducible refine gate_dst (N := 2) rfl ?_); refine box_event ?hg (N := 2) ?hd (cs := #[.int .i64 x.f0, .int .i64 x.f1, .string x.f2]) (t := 102) ?hr ?_; (case hd => rfl); (case hg => rfl); (case hr => first | (go_simp; done) | (go_simp; rfl)); intro b2 hg w2 hbox hb; have n9_ := Aside0.mk (below_step HB.out hb); clear HB; have HB := n9_; clear n9_; have BK := Aside0.mk hbox; clear hbox hg hb; have hc2_w2 := (show w2.cell? ⟨b2, 2, none⟩ = some (.string x.f2) from (blk_cell BK.out 2).trans rfl)))
  all_goals first | (go_ret; exact ⟨-1, rfl, by omega, by omega, fun h => absurd h (by decide), HB.out⟩) | (go_ret; exact ⟨a - (x.f2.size : Int), rfl, by omega, by omega, fun _ => trivial, HB.out⟩)
set_option maxHeartbeats 4000000 in
set_option maxRecDepth 100000 in
theorem sz26 (l : List Int) (A0 : Option Addr) (c0 : Nat) (a : Int) (w : World) (hr : Kd.C (Kd.int .i64) w A0 l.length l) (hc : l.length ≤ c0) (h0 : 0 ≤ a) (h1 : a ≤ 1048576) :
    Calls Try.prog 26 #[.slice A0 l.length c0, .int .i64 a] w fun e w' => ∃ r : Int, e = .returned (.int .i64 r) ∧ -1 ≤ r ∧ r ≤ a ∧ (0 ≤ r → smL3 l) ∧ Below w.heap.size w w' := by
  have hm : (l.length : Int) ≤ 9223372036854775807 := by have := hr.2.1; omega
  have HR := Aside0.mk hr
  clear hr
  have HB := Aside0.mk (Below.refl w.heap.size w)
  go_enter Try.func26, Try.ntmps26
  by_cases c : a - (l.length : Int) < 0
  · have cd := decide_eq_true c
    clear c
    go_wp2
    (go_ret; exact ⟨-1, rfl, by omega, by omega, fun h => absurd h (by decide), HB.out⟩)
  · have cd := decide_eq_false c
    have hl := Aside0.mk (show l.length ≤ 1048576 by omega)
    have c2 : 0 ≤ a - (l.length : Int) := by omega
    go_wp2
    (go_ret; exact ⟨a - (l.length : Int), rfl, by omega, by omega, fun _ => hl.out, HB.out⟩)
def bd104 (x : S104) : Prop := bd102 x.f4 ∧ True
set_option maxHeartbeats 4000000 in
set_option maxRecDepth 100000 in
theorem sz57 (x : S104) (A7 : Option Addr) (c7 : Nat) (a : Int) (w : World) (g7 : Kd.C (Kd.int .i64) w A7 x.f5.length x.f5) (l7 : x.f5.length ≤ c7) (hb : bd104 x) (h0 : 0 ≤ a) (h1 : a ≤ 1048576) :
    Calls Try.prog 57 #[.agg #[.int .i64 x.f0, .int .i64 x.f1, .int .i64 x.f2, .int .i64 x.f3, .int .i64 x.f4.f0, .int .i64 x.f4.f1, .string x.f4.f2, .slice A7 x.f5.length c7], .int .i64 a] w fun e w' => ∃ r : Int, e = .returned (.int .i64 r) ∧ -1 ≤ r ∧ r ≤ a ∧ (0 ≤ r → sm104 x) ∧ Below w.heap.size w w' := by
  have hu := Try.underlying104
  have G7 := Aside0.mk g7
  have L7 := Aside0.mk l7
  have HBD := Aside0.mk hb
  clear hb g7 l7
  have HB := Aside0.mk (Below.refl w.heap.size w)
  obtain ⟨p4, _⟩ := HBD.out
  have Bp4 := Aside0.mk p4
  clear p4
  go_enter Try.func57, Try.ntmps57
  have tok0 : True := trivial
  have tok1 : True := trivial
  go_wp2_with (first
    | ((with_reducible refine gate_dst (N := 2) rfl ?_); refine box_event ?hg (N := 2) ?hd (cs := #[.int .i64 x.f0, .int .i64 x.f1, .int .i64 x.f2, .int .i64 x.f3, .int .i64 x.f4.f0, .int .i64 x.f4.f1, .string x.f4.f2, .slice A7 x.f5.length c7]) (t := 104) ?hr ?_; (case hd => rfl); (case hg => rfl); (case hr => first | (go_simp; done) | (go_simp; rfl)); intro b2 hg w2 hbox hb; have n9_ := Aside0.mk (below_step HB.out hb); clear HB; have HB := n9_; clear n9_; have BK := Aside0.mk hbox; clear hbox hg hb; have hc4_w2 := (show w2.cell? ⟨b2, 4, none⟩ = some (.int .i64 x.f4.f0) from (blk_cell BK.out 4).trans rfl); have hc5_w2 := (show w2.cell? ⟨b2, 5, none⟩ = some (.int .i64 x.f4.f1) from (blk_cell BK.out 5).trans rfl); have hc6_w2 := (show w2.cell? ⟨b2, 6, none⟩ = some (.string x.f4.f2) from (blk_cell BK.out 6).trans rfl))
    | (go_at_call 60; have t_ := tok0; clear t_; (with_reducible refine (sz60 x.f4 a _ Bp4.out (by omega) (by omega)).mono ?_); rintro e v0 ⟨r0, rfl, b0a, b0b, hs, hb⟩; have HS4 := Aside0.mk hs; have n0_ := Aside0.mk (below_step HB.out hb); have n1_ := Aside0.mk (blk_below BK.out hb); clear HB BK hb hs; have HB := n0_; have BK := n1_; clear n0_ n1_; have hc7_v0 := (show v0.cell? ⟨b2, 7, none⟩ = some (.slice A7 x.f5.length c7) from (blk_cell BK.out 7).trans rfl); clear tok0)
    | (go_at_call 26; have t_ := tok1; clear t_; (with_reducible refine (sz26 x.f5 A7 c7 r0 _ (Kd.C_below G7.out HB.out) L7.out (by omega) (by omega)).mono ?_); rintro e v1 ⟨r1, rfl, b1a, b1b, hs, hb⟩; have HS5 := Aside0.mk hs; have n0_ := Aside0.mk (below_step HB.out hb); have n1_ := Aside0.mk (blk_below BK.out hb); clear HB BK hb hs; have HB := n0_; have BK := n1_; clear n0_ n1_; clear tok1))
  all_goals first | (go_ret; exact ⟨-1, rfl, by omega, by omega, fun h => absurd h (by decide), HB.out⟩) | (go_ret; exact ⟨r1, rfl, by omega, by omega, fun _ => ⟨HS4.out (by omega), HS5.out (by omega), trivial⟩, HB.out⟩)
theorem sm102_z : sm102 z102 := trivial
theorem smL3_nil : smL3 [] := by unfold smL3; decide
theorem sm104_z : sm104 z104 := ⟨sm102_z, smL3_nil, trivial⟩
def bdL104 (l : List S104) : Prop := ∀ j, bd104 (l.getD j z104)
set_option maxHeartbeats 4000000 in
set_option maxRecDepth 100000 in
theorem sz54 (l : List S104) (A0 : Option Addr) (c0 : Nat) (a : Int) (w : World) (hr : Kd.C k104 w A0 l.length l) (hc : l.length ≤ c0) (hb : bdL104 l) (h0 : 0 ≤ a) (h1 : a ≤ 1048576) :
    Calls Try.prog 54 #[.slice A0 l.length c0, .int .i64 a] w fun e w' => ∃ r : Int, e = .returned (.int .i64 r) ∧ -1 ≤ r ∧ r ≤ a ∧ (0 ≤ r → smL104 l) ∧ Below w.heap.size w w' := by
  have hm : (l.length : Int) ≤ 9223372036854775807 := by have := hr.2.1; omega
  have HR := Aside0.mk hr
  clear hr
  have HB := Aside0.mk (Below.refl w.heap.size w)
  have HBD := Aside0.mk hb
  clear hb
  go_enter Try.func54, Try.ntmps54
  by_cases c : a - (l.length : Int) < 0
  · have cd := decide_eq_true c
    clear c
    go_wp2
    (go_ret; exact ⟨-1, rfl, by omega, by omega, fun h => absurd h (by decide), HB.out⟩)
  · have cd := decide_eq_false c
    have hl := Aside0.mk (show l.length ≤ 1048576 by omega)
    have c2 : 0 ≤ a - (l.length : Int) := by omega
    go_wp2
    go_loopw [1, 5] (fun v1 v w' => ∃ (n i : Nat) (left : Int), v1 = .int .i64 left ∧ v = .int .i64 (i : Int) ∧ Aside0 (i + n = l.length) ∧ Aside0 (0 ≤ left ∧ left ≤ a) ∧ Aside0 (∀ j, j < i → sm104 (l.getD j z104)) ∧ Aside0 (Below w.heap.size w w')) (fun _ v _ => l.length - (intOf v).toNat)
    case atStart => exact ⟨l.length, 0, _, rfl, rfl, ⟨by omega⟩, ⟨by omega, by omega⟩, ⟨fun j h => absurd h (Nat.not_lt_zero _)⟩, HB⟩
    case round =>
      obtain ⟨n, i, left, rfl, rfl, HI, HLF, HSM, HB⟩ := hrel
      clear cd c c2
      have lf0 := HLF.out.1
      have lf1 := HLF.out.2
      cases n with
      | zero =>
        have hlt : decide ((i : Int) < (l.length : Int)) = false := decide_eq_false (by have := HI.out; omega)
        have hlt2 : decide (i < l.length) = false := decide_eq_false (by have := HI.out; omega)
        go_wp2
        go_ret
        exact ⟨left, rfl, by omega, by omega, fun _ => ⟨hl.out, fun j => by
          by_cases hj : j < l.length
          · exact HSM.out j (by have := HI.out; omega)
          · rw [show l.getD j z104 = z104 by simp [List.getD, Nat.le_of_not_lt hj]]
            exact sm104_z⟩, HB.out⟩
      | succ n =>
        have hlt : decide ((i : Int) < (l.length : Int)) = true := decide_eq_true (by have := HI.out; omega)
        have hlt2 : decide (i < l.length) = true := decide_eq_true (by have := HI.out; omega)
        have q0 : (0 : Int) ≤ (i : Int) := by omega
        have q1 : (i : Int) < (l.length : Int) := by have := HI.out; omega
        have q2 : (i < l.length) = True := eq_true (by have := HI.out; omega)
        have HW := Aside0.mk (show wrap64 ((i : Int) + 1) = ((i + 1 : Nat) : Int) by have := HI.out; have := hl.out; unfold wrap64; omega)
        have HL := Aside0.mk (show i < l.length by have := HI.out; omega)
        obtain ⟨ad, A7, c7, ea, hx0, hx1, hx2, hx3, hx4, hx5, hx6, hx7, l7, g7⟩ := at_T104 (Kd.C_below HR.out HB.out) (i : Int) q0 q1
        subst ea
        simp only [Int.toNat_natCast] at hx0 hx1 hx2 hx3 hx4 hx5 hx6 hx7
        obtain ⟨x, hX⟩ : ∃ x, rd_T104 l (i : Int) = x := ⟨_, rfl⟩
        rw [hX] at hx0 hx1 hx2 hx3 hx4 hx5 hx6 hx7
        simp only [hX] at g7 l7
        have G7 := Aside0.mk g7
        have L7 := Aside0.mk l7
        have HXX := Aside0.mk (show l.getD i z104 = x from hX)
        have HBX := Aside0.mk (show bd104 x by rw [← HXX.out]; exact HBD.out i)
        clear hX g7 l7
        replace q0 := eq_true q0
        replace q1 := eq_true q1
        go_wp2_with (first | (go_at_call 57; (with_reducible refine (sz57 x A7 c7 left _ G7.out L7.out HBX.out (by omega) (by omega)).mono ?_); rintro e w9 ⟨r, rfl, ra, rb, hs, hb⟩; have HSR := Aside0.mk hs; have n0_ := Aside0.mk (below_step HB.out hb); clear HB hb hs; have HB := n0_; clear n0_))
        all_goals first
          | (go_ret; exact ⟨-1, rfl, by omega, by omega, fun h => absurd h (by decide), HB.out⟩)
          | (go_roundw
             case rel => exact ⟨n, i + 1, r, rfl, congrArg (Value.int .i64) HW.out, ⟨by have := HI.out; omega⟩, ⟨by omega, by omega⟩, ⟨fun j hj => by
               by_cases ej : j = i
               · subst ej; rw [HXX.out]; exact HSR.out (by omega)
               · exact HSM.out j (by omega)⟩, HB⟩
             case measure => rw [HW.out]; have := HL.out; show l.length - ((i + 1 : Nat) : Int).toNat < l.length - ((i : Nat) : Int).toNat; omega)
def bd87 (x : S87) : Prop := bdL104 x.f0 ∧ True
set_option maxHeartbeats 4000000 in
set_option maxRecDepth 100000 in
theorem sz46 (x : S87) (A0 : Option Addr) (c0 : Nat) (a : Int) (w : World) (g0 : Kd.C k104 w A0 x.f0.length x.f0) (l0 : x.f0.length ≤ c0) (hb : bd87 x) (h0 : 0 ≤ a) (h1 : a ≤ 1048576) :
    Calls Try.prog 46 #[.agg #[.slice A0 x.f0.length c0], .int .i64 a] w fun e w' => ∃ r : Int, e = .returned (.int .i64 r) ∧ -1 ≤ r ∧ r ≤ a ∧ (0 ≤ r → sm87 x) ∧ Below w.heap.size w w' := by
  have hu := Try.underlying87
  have G0 := Aside0.mk g0
  have L0 := Aside0.mk l0
  have HBD := Aside0.mk hb
  clear hb g0 l0
  have HB := Aside0.mk (Below.refl w.heap.size w)
  obtain ⟨p0, _⟩ := HBD.out
  have Bp0 := Aside0.mk p0
  clear p0
  go_enter Try.func46, Try.ntmps46
  have tok0 : True := trivial
  go_wp2_with (first
    | ((with_reducible refine gate_dst (N := 2) rfl ?_); refine box_event ?hg (N := 2) ?hd (cs := #[.slice A0 x.f0.length c0]) (t := 87) ?hr ?_; (case hd => rfl); (case hg => rfl); (case hr => first | (go_simp; done) | (go_simp; rfl)); intro b2 hg w2 hbox hb; have n9_ := Aside0.mk (below_step HB.out hb); clear HB; have HB := n9_; clear n9_; have BK := Aside0.mk hbox; clear hbox hg hb; have hc0_w2 := (show w2.cell? ⟨b2, 0, none⟩ = some (.slice A0 x.f0.length c0) from (blk_cell BK.out 0).trans rfl))
    | (go_at_call 54; have t_ := tok0; clear t_; (with_reducible refine (sz54 x.f0 A0 c0 a _ (Kd.C_below G0.out HB.out) L0.out Bp0.out (by omega) (by omega)).mono ?_); rintro e v0 ⟨r0, rfl, b0a, b0b, hs, hb⟩; have HS0 := Aside0.mk hs; have n0_ := Aside0.mk (below_step HB.out hb); have n1_ := Aside0.mk (blk_below BK.out hb); clear HB BK hb hs; have HB := n0_; have BK := n1_; clear n0_ n1_; clear tok0))
  all_goals first | (go_ret; exact ⟨-1, rfl, by omega, by omega, fun h => absurd h (by decide), HB.out⟩) | (go_ret; exact ⟨r0, rfl, by omega, by omega, fun _ => ⟨HS0.out (by omega), trivial⟩, HB.out⟩)
theorem smL104_nil : smL104 [] := ⟨by decide, fun j => by rw [show ([] : List S104).getD j z104 = z104 by simp [List.getD]]; exact sm104_z⟩
theorem sm87_z : sm87 z87 := ⟨smL104_nil, trivial⟩
def bdL87 (l : List S87) : Prop := ∀ j, bd87 (l.getD j z87)
set_option maxHeartbeats 4000000 in
set_option maxRecDepth 100000 in
theorem sz25 (l : List S87) (A0 : Option Addr) (c0 : Nat) (a : Int) (w : World) (hr : Kd.C k87 w A0 l.length l) (hc : l.length ≤ c0) (hb : bdL87 l) (h0 : 0 ≤ a) (h1 : a ≤ 1048576) :
    Calls Try.prog 25 #[.slice A0 l.length c0, .int .i64 a] w fun e w' => ∃ r : Int, e = .returned (.int .i64 r) ∧ -1 ≤ r ∧ r ≤ a ∧ (0 ≤ r → smL87 l) ∧ Below w.heap.size w w' := by
  have hm : (l.length : Int) ≤ 9223372036854775807 := by have := hr.2.1; omega
  have HR := Aside0.mk hr
  clear hr
  have HB := Aside0.mk (Below.refl w.heap.size w)
  have HBD := Aside0.mk hb
  clear hb
  go_enter Try.func25, Try.ntmps25
  by_cases c : a - (l.length : Int) < 0
  · have cd := decide_eq_true c
    clear c
    go_wp2
    (go_ret; exact ⟨-1, rfl, by omega, by omega, fun h => absurd h (by decide), HB.out⟩)
  · have cd := decide_eq_false c
    have hl := Aside0.mk (show l.length ≤ 1048576 by omega)
    have c2 : 0 ≤ a - (l.length : Int) := by omega
    go_wp2
    go_loopw [1, 5] (fun v1 v w' => ∃ (n i : Nat) (left : Int), v1 = .int .i64 left ∧ v = .int .i64 (i : Int) ∧ Aside0 (i + n = l.length) ∧ Aside0 (0 ≤ left ∧ left ≤ a) ∧ Aside0 (∀ j, j < i → sm87 (l.getD j z87)) ∧ Aside0 (Below w.heap.size w w')) (fun _ v _ => l.length - (intOf v).toNat)
    case atStart => exact ⟨l.length, 0, _, rfl, rfl, ⟨by omega⟩, ⟨by omega, by omega⟩, ⟨fun j h => absurd h (Nat.not_lt_zero _)⟩, HB⟩
    case round =>
      obtain ⟨n, i, left, rfl, rfl, HI, HLF, HSM, HB⟩ := hrel
      clear cd c c2
      have lf0 := HLF.out.1
      have lf1 := HLF.out.2
      cases n with
      | zero =>
        have hlt : decide ((i : Int) < (l.length : Int)) = false := decide_eq_false (by have := HI.out; omega)
        have hlt2 : decide (i < l.length) = false := decide_eq_false (by have := HI.out; omega)
        go_wp2
        go_ret
        exact ⟨left, rfl, by omega, by omega, fun _ => ⟨hl.out, fun j => by
          by_cases hj : j < l.length
          · exact HSM.out j (by have := HI.out; omega)
          · rw [show l.getD j z87 = z87 by simp [List.getD, Nat.le_of_not_lt hj]]
            exact sm87_z⟩, HB.out⟩
      | succ n =>
        have hlt : decide ((i : Int) < (l.length : Int)) = true := decide_eq_true (by have := HI.out; omega)
        have hlt2 : decide (i < l.length) = true := decide_eq_true (by have := HI.out; omega)
        have q0 : (0 : Int) ≤ (i : Int) := by omega
        have q1 : (i : Int) < (l.length : Int) := by have := HI.out; omega
        have q2 : (i < l.length) = True := eq_true (by have := HI.out; omega)
        have HW := Aside0.mk (show wrap64 ((i : Int) + 1) = ((i + 1 : Nat) : Int) by have := HI.out; have := hl.out; unfold wrap64; omega)
        have HL := Aside0.mk (show i < l.length by have := HI.out; omega)
        obtain ⟨ad, A0, c0, ea, hx0, l0, g0⟩ := at_T87 (Kd.C_below HR.out HB.out) (i : Int) q0 q1
        subst ea
        simp only [Int.toNat_natCast] at hx0
        obtain ⟨x, hX⟩ : ∃ x, rd_T87 l (i : Int) = x := ⟨_, rfl⟩
        rw [hX] at hx0
        simp only [hX] at g0 l0
        have G0 := Aside0.mk g0
        have L0 := Aside0.mk l0
        have HXX := Aside0.mk (show l.getD i z87 = x from hX)
        have HBX := Aside0.mk (show bd87 x by rw [← HXX.out]; exact HBD.out i)
        clear hX g0 l0
        replace q0 := eq_true q0
        replace q1 := eq_true q1
        go_wp2_with (first | (go_at_call 46; (with_reducible refine (sz46 x A0 c0 left _ G0.out L0.out HBX.out (by omega) (by omega)).mono ?_); rintro e w9 ⟨r, rfl, ra, rb, hs, hb⟩; have HSR := Aside0.mk hs; have n0_ := Aside0.mk (below_step HB.out hb); clear HB hb hs; have HB := n0_; clear n0_))
        all_goals first
          | (go_ret; exact ⟨-1, rfl, by omega, by omega, fun h => absurd h (by decide), HB.out⟩)
          | (go_roundw
             case rel => exact ⟨n, i + 1, r, rfl, congrArg (Value.int .i64) HW.out, ⟨by have := HI.out; omega⟩, ⟨by omega, by omega⟩, ⟨fun j hj => by
               by_cases ej : j = i
               · subst ej; rw [HXX.out]; exact HSR.out (by omega)
               · exact HSM.out j (by omega)⟩, HB⟩
             case measure => rw [HW.out]; have := HL.out; show l.length - ((i + 1 : Nat) : Int).toNat < l.length - ((i : Nat) : Int).toNat; omega)
theorem sm90_z : sm90 z90 := trivial
def bdL90 (l : List S90) : Prop := True
set_option maxHeartbeats 4000000 in
set_option maxRecDepth 100000 in
theorem sz27 (l : List S90) (A0 : Option Addr) (c0 : Nat) (a : Int) (w : World) (hr : Kd.C k90 w A0 l.length l) (hc : l.length ≤ c0) (h0 : 0 ≤ a) (h1 : a ≤ 1048576) :
    Calls Try.prog 27 #[.slice A0 l.length c0, .int .i64 a] w fun e w' => ∃ r : Int, e = .returned (.int .i64 r) ∧ -1 ≤ r ∧ r ≤ a ∧ (0 ≤ r → smL90 l) ∧ Below w.heap.size w w' := by
  have hm : (l.length : Int) ≤ 9223372036854775807 := by have := hr.2.1; omega
  have HR := Aside0.mk hr
  clear hr
  have HB := Aside0.mk (Below.refl w.heap.size w)
  go_enter Try.func27, Try.ntmps27
  by_cases c : a - (l.length : Int) < 0
  · have cd := decide_eq_true c
    clear c
    go_wp2
    (go_ret; exact ⟨-1, rfl, by omega, by omega, fun h => absurd h (by decide), HB.out⟩)
  · have cd := decide_eq_false c
    have hl := Aside0.mk (show l.length ≤ 1048576 by omega)
    have c2 : 0 ≤ a - (l.length : Int) := by omega
    go_wp2
    (go_ret; exact ⟨a - (l.length : Int), rfl, by omega, by omega, fun _ => ⟨hl.out, fun _ => trivial⟩, HB.out⟩)
theorem sm94_z : sm94 z94 := trivial
def bdL94 (l : List S94) : Prop := True
set_option maxHeartbeats 4000000 in
set_option maxRecDepth 100000 in
theorem sz28 (l : List S94) (A0 : Option Addr) (c0 : Nat) (a : Int) (w : World) (hr : Kd.C k94 w A0 l.length l) (hc : l.length ≤ c0) (h0 : 0 ≤ a) (h1 : a ≤ 1048576) :
    Calls Try.prog 28 #[.slice A0 l.length c0, .int .i64 a] w fun e w' => ∃ r : Int, e = .returned (.int .i64 r) ∧ -1 ≤ r ∧ r ≤ a ∧ (0 ≤ r → smL94 l) ∧ Below w.heap.size w w' := by
  have hm : (l.length : Int) ≤ 9223372036854775807 := by have := hr.2.1; omega
  have HR := Aside0.mk hr
  clear hr
  have HB := Aside0.mk (Below.refl w.heap.size w)
  go_enter Try.func28, Try.ntmps28
  by_cases c : a - (l.length : Int) < 0
  · have cd := decide_eq_true c
    clear c
    go_wp2
    (go_ret; exact ⟨-1, rfl, by omega, by omega, fun h => absurd h (by decide), HB.out⟩)
  · have cd := decide_eq_false c
    have hl := Aside0.mk (show l.length ≤ 1048576 by omega)
    have c2 : 0 ≤ a - (l.length : Int) := by omega
    go_wp2
    (go_ret; exact ⟨a - (l.length : Int), rfl, by omega, by omega, fun _ => ⟨hl.out, fun _ => trivial⟩, HB.out⟩)
def bd60 (x : S60) : Prop := bdL87 x.f6 ∧ True
set_option maxHeartbeats 4000000 in
set_option maxRecDepth 100000 in
theorem sz16 (x : S60) (A6 : Option Addr) (c6 : Nat) (A7 : Option Addr) (c7 : Nat) (A8 : Option Addr) (c8 : Nat) (A9 : Option Addr) (c9 : Nat) (A10 : Option Addr) (c10 : Nat) (a : Int) (w : World) (g6 : Kd.C k87 w A6 x.f6.length x.f6) (l6 : x.f6.length ≤ c6) (g7 : Kd.C (Kd.int .i64) w A7 x.f7.length x.f7) (l7 : x.f7.length ≤ c7) (g8 : Kd.C k90 w A8 x.f8.length x.f8) (l8 : x.f8.length ≤ c8) (g9 : Kd.C k94 w A9 x.f9.length x.f9) (l9 : x.f9.length ≤ c9) (g10 : Kd.C (Kd.int .i64) w A10 x.f10.length x.f10) (l10 : x.f10.length ≤ c10) (hb : bd60 x) (h0 : 0 ≤ a) (h1 : a ≤ 1048576) :
    Calls Try.prog 16 #[.agg #[.int .i64 x.f0, .int .i64 x.f1, .int .i64 x.f2, .int .i64 x.f3, .int .i64 x.f4, .int .i64 x.f5, .slice A6 x.f6.length c6, .slice A7 x.f7.length c7, .slice A8 x.f8.length c8, .slice A9 x.f9.length c9, .slice A10 x.f10.length c10], .int .i64 a] w fun e w' => ∃ r : Int, e = .returned (.int .i64 r) ∧ -1 ≤ r ∧ r ≤ a ∧ (0 ≤ r → sm60 x) ∧ Below w.heap.size w w' := by
  have hu := Try.underlying60
  have G6 := Aside0.mk g6
  have L6 := Aside0.mk l6
  have G7 := Aside0.mk g7
  have L7 := Aside0.mk l7
  have G8 := Aside0.mk g8
  have L8 := Aside0.mk l8
  have G9 := Aside0.mk g9
  have L9 := Aside0.mk l9
  have G10 := Aside0.mk g10
  have L10 := Aside0.mk l10
  have HBD := Aside0.mk hb
  clear hb g6 l6 g7 l7 g8 l8 g9 l9 g10 l10
  have HB := Aside0.mk (Below.refl w.heap.size w)
  obtain ⟨p6, _⟩ := HBD.out
  have Bp6 := Aside0.mk p6
  clear p6
  go_enter Try.func16, Try.ntmps16
  have tok0 : True := trivial
  have tok1 : True := trivial
  have tok2 : True := trivial
  have tok3 : True := trivial
  have tok4 : True := trivial
  go_wp2_with (first
    | ((with_reducible refine gate_dst (N := 2) rfl ?_); refine box_event ?hg (N := 2) ?hd (cs := #[.int .i64 x.f0, .int .i64 x.f1, .int .i64 x.f2, .int .i64 x.f3, .int .i64 x.f4, .int .i64 x.f5, .slice A6 x.f6.length c6, .slice A7 x.f7.length c7, .slice A8 x.f8.length c8, .slice A9 x.f9.length c9, .slice A10 x.f10.length c10]) (t := 60) ?hr ?_; (case hd => rfl); (case hg => rfl); (case hr => first | (go_simp; done) | (go_simp; rfl)); intro b2 hg w2 hbox hb; have n9_ := Aside0.mk (below_step HB.out hb); clear HB; have HB := n9_; clear n9_; have BK := Aside0.mk hbox; clear hbox hg hb; have hc6_w2 := (show w2.cell? ⟨b2, 6, none⟩ = some (.slice A6 x.f6.length c6) from (blk_cell BK.out 6).trans rfl))
    | (go_at_call 25; have t_ := tok0; clear t_; (with_reducible refine (sz25 x.f6 A6 c6 a _ (Kd.C_below G6.out HB.out) L6.out Bp6.out (by omega) (by omega)).mono ?_); rintro e v0 ⟨r0, rfl, b0a, b0b, hs, hb⟩; have HS6 := Aside0.mk hs; have n0_ := Aside0.mk (below_step HB.out hb); have n1_ := Aside0.mk (blk_below BK.out hb); clear HB BK hb hs; have HB := n0_; have BK := n1_; clear n0_ n1_; have hc7_v0 := (show v0.cell? ⟨b2, 7, none⟩ = some (.slice A7 x.f7.length c7) from (blk_cell BK.out 7).trans rfl); clear tok0)
    | (go_at_call 26; have t_ := tok1; clear t_; (with_reducible refine (sz26 x.f7 A7 c7 r0 _ (Kd.C_below G7.out HB.out) L7.out (by omega) (by omega)).mono ?_); rintro e v1 ⟨r1, rfl, b1a, b1b, hs, hb⟩; have HS7 := Aside0.mk hs; have n0_ := Aside0.mk (below_step HB.out hb); have n1_ := Aside0.mk (blk_below BK.out hb); clear HB BK hb hs; have HB := n0_; have BK := n1_; clear n0_ n1_; have hc8_v1 := (show v1.cell? ⟨b2, 8, none⟩ = some (.slice A8 x.f8.length c8) from (blk_cell BK.out 8).trans rfl); clear tok1)
    | (go_at_call 27; have t_ := tok2; clear t_; (with_reducible refine (sz27 x.f8 A8 c8 r1 _ (Kd.C_below G8.out HB.out) L8.out (by omega) (by omega)).mono ?_); rintro e v2 ⟨r2, rfl, b2a, b2b, hs, hb⟩; have HS8 := Aside0.mk hs; have n0_ := Aside0.mk (below_step HB.out hb); have n1_ := Aside0.mk (blk_below BK.out hb); clear HB BK hb hs; have HB := n0_; have BK := n1_; clear n0_ n1_; have hc9_v2 := (show v2.cell? ⟨b2, 9, none⟩ = some (.slice A9 x.f9.length c9) from (blk_cell BK.out 9).trans rfl); clear tok2)
    | (go_at_call 28; have t_ := tok3; clear t_; (with_reducible refine (sz28 x.f9 A9 c9 r2 _ (Kd.C_below G9.out HB.out) L9.out (by omega) (by omega)).mono ?_); rintro e v3 ⟨r3, rfl, b3a, b3b, hs, hb⟩; have HS9 := Aside0.mk hs; have n0_ := Aside0.mk (below_step HB.out hb); have n1_ := Aside0.mk (blk_below BK.out hb); clear HB BK hb hs; have HB := n0_; have BK := n1_; clear n0_ n1_; have hc10_v3 := (show v3.cell? ⟨b2, 10, none⟩ = some (.slice A10 x.f10.length c10) from (blk_cell BK.out 10).trans rfl); clear tok3)
    | (go_at_call 26; have t_ := tok4; clear t_; (with_reducible refine (sz26 x.f10 A10 c10 r3 _ (Kd.C_below G10.out HB.out) L10.out (by omega) (by omega)).mono ?_); rintro e v4 ⟨r4, rfl, b4a, b4b, hs, hb⟩; have HS10 := Aside0.mk hs; have n0_ := Aside0.mk (below_step HB.out hb); have n1_ := Aside0.mk (blk_below BK.out hb); clear HB BK hb hs; have HB := n0_; have BK := n1_; clear n0_ n1_; clear tok4))
  all_goals first | (go_ret; exact ⟨-1, rfl, by omega, by omega, fun h => absurd h (by decide), HB.out⟩) | (go_ret; exact ⟨r4, rfl, by omega, by omega, fun _ => ⟨HS6.out (by omega), HS7.out (by omega), HS8.out (by omega), HS9.out (by omega), HS10.out (by omega), trivial⟩, HB.out⟩)
theorem smL87_nil : smL87 [] := ⟨by decide, fun j => by rw [show ([] : List S87).getD j z87 = z87 by simp [List.getD]]; exact sm87_z⟩
theorem smL90_nil : smL90 [] := ⟨by decide, fun j => by rw [show ([] : List S90).getD j z90 = z90 by simp [List.getD]]; exact sm90_z⟩
theorem smL94_nil : smL94 [] := ⟨by decide, fun j => by rw [show ([] : List S94).getD j z94 = z94 by simp [List.getD]]; exact sm94_z⟩
theorem sm60_z : sm60 z60 := ⟨smL87_nil, smL3_nil, smL90_nil, smL94_nil, smL3_nil, trivial⟩
def bdL60 (l : List S60) : Prop := ∀ j, bd60 (l.getD j z60)
set_option maxHeartbeats 4000000 in
set_option maxRecDepth 100000 in
theorem sz9 (l : List S60) (A0 : Option Addr) (c0 : Nat) (a : Int) (w : World) (hr : Kd.C k60 w A0 l.length l) (hc : l.length ≤ c0) (hb : bdL60 l) (h0 : 0 ≤ a) (h1 : a ≤ 1048576) :
    Calls Try.prog 9 #[.slice A0 l.length c0, .int .i64 a] w fun e w' => ∃ r : Int, e = .returned (.int .i64 r) ∧ -1 ≤ r ∧ r ≤ a ∧ (0 ≤ r → smL60 l) ∧ Below w.heap.size w w' := by
  have hm : (l.length : Int) ≤ 9223372036854775807 := by have := hr.2.1; omega
  have HR := Aside0.mk hr
  clear hr
  have HB := Aside0.mk (Below.refl w.heap.size w)
  have HBD := Aside0.mk hb
  clear hb
  go_enter Try.func9, Try.ntmps9
  by_cases c : a - (l.length : Int) < 0
  · have cd := decide_eq_true c
    clear c
    go_wp2
    (go_ret; exact ⟨-1, rfl, by omega, by omega, fun h => absurd h (by decide), HB.out⟩)
  · have cd := decide_eq_false c
    have hl := Aside0.mk (show l.length ≤ 1048576 by omega)
    have c2 : 0 ≤ a - (l.length : Int) := by omega
    go_wp2
    go_loopw [1, 5] (fun v1 v w' => ∃ (n i : Nat) (left : Int), v1 = .int .i64 left ∧ v = .int .i64 (i : Int) ∧ Aside0 (i + n = l.length) ∧ Aside0 (0 ≤ left ∧ left ≤ a) ∧ Aside0 (∀ j, j < i → sm60 (l.getD j z60)) ∧ Aside0 (Below w.heap.size w w')) (fun _ v _ => l.length - (intOf v).toNat)
    case atStart => exact ⟨l.length, 0, _, rfl, rfl, ⟨by omega⟩, ⟨by omega, by omega⟩, ⟨fun j h => absurd h (Nat.not_lt_zero _)⟩, HB⟩
    case round =>
      obtain ⟨n, i, left, rfl, rfl, HI, HLF, HSM, HB⟩ := hrel
      clear cd c c2
      have lf0 := HLF.out.1
      have lf1 := HLF.out.2
      cases n with
      | zero =>
        have hlt : decide ((i : Int) < (l.length : Int)) = false := decide_eq_false (by have := HI.out; omega)
        have hlt2 : decide (i < l.length) = false := decide_eq_false (by have := HI.out; omega)
        go_wp2
        go_ret
        exact ⟨left, rfl, by omega, by omega, fun _ => ⟨hl.out, fun j => by
          by_cases hj : j < l.length
          · exact HSM.out j (by have := HI.out; omega)
          · rw [show l.getD j z60 = z60 by simp [List.getD, Nat.le_of_not_lt hj]]
            exact sm60_z⟩, HB.out⟩
      | succ n =>
        have hlt : decide ((i : Int) < (l.length : Int)) = true := decide_eq_true (by have := HI.out; omega)
        have hlt2 : decide (i < l.length) = true := decide_eq_true (by have := HI.out; omega)
        have q0 : (0 : Int) ≤ (i : Int) := by omega
        have q1 : (i : Int) < (l.length : Int) := by have := HI.out; omega
        have q2 : (i < l.length) = True := eq_true (by have := HI.out; omega)
        have HW := Aside0.mk (show wrap64 ((i : Int) + 1) = ((i + 1 : Nat) : Int) by have := HI.out; have := hl.out; unfold wrap64; omega)
        have HL := Aside0.mk (show i < l.length by have := HI.out; omega)
        obtain ⟨ad, A6, c6, A7, c7, A8, c8, A9, c9, A10, c10, ea, hx0, hx1, hx2, hx3, hx4, hx5, hx6, hx7, hx8, hx9, hx10, l6, g6, l7, g7, l8, g8, l9, g9, l10, g10⟩ := at_T60 (Kd.C_below HR.out HB.out) (i : Int) q0 q1
        subst ea
        simp only [Int.toNat_natCast] at hx0 hx1 hx2 hx3 hx4 hx5 hx6 hx7 hx8 hx9 hx10
        obtain ⟨x, hX⟩ : ∃ x, rd_T60 l (i : Int) = x := ⟨_, rfl⟩
        rw [hX] at hx0 hx1 hx2 hx3 hx4 hx5 hx6 hx7 hx8 hx9 hx10
        simp only [hX] at g6 l6 g7 l7 g8 l8 g9 l9 g10 l10
        have G6 := Aside0.mk g6
        have L6 := Aside0.mk l6
        have G7 := Aside0.mk g7
        have L7 := Aside0.mk l7
        have G8 := Aside0.mk g8
        have L8 := Aside0.mk l8
        have G9 := Aside0.mk g9
        have L9 := Aside0.mk l9
        have G10 := Aside0.mk g10
        have L10 := Aside0.mk l10
        have HXX := Aside0.mk (show l.getD i z60 = x from hX)
        have HBX := Aside0.mk (show bd60 x by rw [← HXX.out]; exact HBD.out i)
        clear hX g6 l6 g7 l7 g8 l8 g9 l9 g10 l10
        replace q0 := eq_true q0
        replace q1 := eq_true q1
        go_wp2_with (first | (go_at_call 16; (with_reducible refine (sz16 x A6 c6 A7 c7 A8 c8 A9 c9 A10 c10 left _ G6.out L6.out G7.out L7.out G8.out L8.out G9.out L9.out G10.out L10.out HBX.out (by omega) (by omega)).mono ?_); rintro e w9 ⟨r, rfl, ra, rb, hs, hb⟩; have HSR := Aside0.mk hs; have n0_ := Aside0.mk (below_step HB.out hb); clear HB hb hs; have HB := n0_; clear n0_))
        all_goals first
          | (go_ret; exact ⟨-1, rfl, by omega, by omega, fun h => absurd h (by decide), HB.out⟩)
          | (go_roundw
             case rel => exact ⟨n, i + 1, r, rfl, congrArg (Value.int .i64) HW.out, ⟨by have := HI.out; omega⟩, ⟨by omega, by omega⟩, ⟨fun j hj => by
               by_cases ej : j = i
               · subst ej; rw [HXX.out]; exact HSR.out (by omega)
               · exact HSM.out j (by omega)⟩, HB⟩
             case measure => rw [HW.out]; have := HL.out; show l.length - ((i + 1 : Nat) : Int).toNat < l.length - ((i : Nat) : Int).toNat; omega)
def bd24 (x : S24) : Prop := bdL60 x.f0 ∧ True
set_option maxHeartbeats 4000000 in
set_option maxRecDepth 100000 in
theorem sz4 (x : S24) (A0 : Option Addr) (c0 : Nat) (a : Int) (w : World) (g0 : Kd.C k60 w A0 x.f0.length x.f0) (l0 : x.f0.length ≤ c0) (hb : bd24 x) (h0 : 0 ≤ a) (h1 : a ≤ 1048576) :
    Calls Try.prog 4 #[.agg #[.slice A0 x.f0.length c0], .int .i64 a] w fun e w' => ∃ r : Int, e = .returned (.int .i64 r) ∧ -1 ≤ r ∧ r ≤ a ∧ (0 ≤ r → sm24 x) ∧ Below w.heap.size w w' := by
  have hu := Try.underlying24
  have G0 := Aside0.mk g0
  have L0 := Aside0.mk l0
  have HBD := Aside0.mk hb
  clear hb g0 l0
  have HB := Aside0.mk (Below.refl w.heap.size w)
  obtain ⟨p0, _⟩ := HBD.out
  have Bp0 := Aside0.mk p0
  clear p0
  go_enter Try.func4, Try.ntmps4
  have tok0 : True := trivial
  go_wp2_with (first
    | ((with_reducible refine gate_dst (N := 2) rfl ?_); refine box_event ?hg (N := 2) ?hd (cs := #[.slice A0 x.f0.length c0]) (t := 24) ?hr ?_; (case hd => rfl); (case hg => rfl); (case hr => first | (go_simp; done) | (go_simp; rfl)); intro b2 hg w2 hbox hb; have n9_ := Aside0.mk (below_step HB.out hb); clear HB; have HB := n9_; clear n9_; have BK := Aside0.mk hbox; clear hbox hg hb; have hc0_w2 := (show w2.cell? ⟨b2, 0, none⟩ = some (.slice A0 x.f0.length c0) from (blk_cell BK.out 0).trans rfl))
    | (go_at_call 9; have t_ := tok0; clear t_; (with_reducible refine (sz9 x.f0 A0 c0 a _ (Kd.C_below G0.out HB.out) L0.out Bp0.out (by omega) (by omega)).mono ?_); rintro e v0 ⟨r0, rfl, b0a, b0b, hs, hb⟩; have HS0 := Aside0.mk hs; have n0_ := Aside0.mk (below_step HB.out hb); have n1_ := Aside0.mk (blk_below BK.out hb); clear HB BK hb hs; have HB := n0_; have BK := n1_; clear n0_ n1_; clear tok0))
  all_goals first | (go_ret; exact ⟨-1, rfl, by omega, by omega, fun h => absurd h (by decide), HB.out⟩) | (go_ret; exact ⟨r0, rfl, by omega, by omega, fun _ => ⟨HS0.out (by omega), trivial⟩, HB.out⟩)
end Go.Proofs.Ytphlfmgllbpbhaa.QFnExactSafePlan
