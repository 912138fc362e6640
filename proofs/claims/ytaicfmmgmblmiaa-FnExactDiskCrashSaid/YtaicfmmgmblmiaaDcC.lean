/- Proved: what impl.zDisk does. Conditions: at most 512 blocks, each of at most 512 bytes. -/
import Derived.Test.YtaicfmmgmblmiaaDcB
import Derived.Test.YtaicfmmgmblmiaaDcP
namespace Go.Proofs.Ytaicfmmgmblmiaa.QFnExactDiskCrash
open Go.RowKit Go.Proofs.YtaicfmmgmblmiaaW.PrintWords Go.Proofs.YtaicfmmgmblmiaaW.PrintLast Go.Proofs.YtaicfmmgmblmiaaW.PrintMore
set_option linter.unusedVariables false
set_option linter.unusedSimpArgs false
/-- The number of blocks that are told: those behind it are nought. -/
def trim (l : List (List Int)) : Nat → Nat
  | 0 => 0
  | n + 1 => if nought (l.getD n []) = true then trim l n else n + 1
theorem trim_le (l : List (List Int)) : ∀ n, trim l n ≤ n
  | 0 => Nat.le_refl _
  | n + 1 => by
    unfold trim
    split
    · exact Nat.le_succ_of_le (trim_le l n)
    · exact Nat.le_refl _
theorem take_step (l : List (List Int)) (i : Nat) (h : i < l.length) : l.take i ++ [rd_L2 l (i : Int)] = l.take (i + 1) := by
  rw [List.take_succ_eq_append_getElem h]
  simp [rd_L2, List.getD, h]
set_option maxHeartbeats 8000000 in
set_option maxRecDepth 100000 in
theorem zDisk_calls (A0 : Option Addr) (c0 : Nat) (l0 : List (List Int)) (w : World) (hr0 : Kd.C (Kd.slice 5 (Kd.int .u8)) w A0 l0.length l0) (hc0 : l0.length ≤ c0) (hl : l0.length ≤ 512) (hb0 : ∀ i, (l0.getD i []).length ≤ 512) :
    Calls Try.prog 42 #[.slice A0 l0.length c0] w fun e w' => ∃ v : Value, e = .returned (.agg #[v]) ∧ Kd.S (Kd.slice 5 (Kd.int .u8)) 62 w' w.heap.size (fun _ => True) v (l0.take (trim l0 l0.length)) ∧ Below w.heap.size w w' := by
  have hu40 := Try.underlying40
  have HR0 := Aside0.mk hr0
  have HC0 := Aside0.mk hc0
  have HL := Aside0.mk hl
  have HBB := Aside0.mk hb0
  clear hr0 hc0 hl hb0
  have HB := Aside0.mk (Below.refl w.heap.size w)
  go_enter Try.func42, Try.ntmps42
  go_upto_block 0 with (first
    | ((with_reducible refine gate_dst (N := 2) rfl ?_); refine box_event ?hg (N := 2) ?hd (cs := #[.slice none 0 0]) (t := 40) ?hr ?_; (case hd => rfl); (case hg => rfl); (case hr => first | (go_simp; done) | (go_simp; rfl)); intro gb hg w3 hbox hb; have n0_ := Aside0.mk (below_step HB.out hb); have n1_ := Aside0.mk (hbox); have n2_ := Aside0.mk ((by rw [hg]; exact below_size HB.out : w.heap.size ≤ gb)); clear HB; have HB := n0_; have BK := n1_; have GE := n2_; clear n0_ n1_ n2_; clear hb hbox hg))
  (try simp only [Act.put, List.setIfInBounds_toArray, List.set_cons_zero, List.set_cons_succ])
  go_cut [3] (fun v3 wc => v3 = .int .i64 ((trim l0 l0.length : Nat) : Int) ∧ Aside0 (wc.heap[gb]? = some (.cells #[.slice none 0 0] 40 (0, 0))) ∧ Aside0 (Below w.heap.size w wc))
  case first =>
    go_wp2
    go_loopw [3] (fun v3 w' => ∃ n : Nat, v3 = .int .i64 (n : Int) ∧ Aside0 (n ≤ l0.length ∧ trim l0 n = trim l0 l0.length) ∧ Aside0 (w'.heap[gb]? = some (.cells #[.slice none 0 0] 40 (0, 0))) ∧ Aside0 (Below w.heap.size w w')) (fun v3 _ => (intOf v3).toNat)
    case atStart => exact ⟨l0.length, rfl, ⟨Nat.le_refl _, rfl⟩, BK, HB⟩
    case round =>
      obtain ⟨n, rfl, HN, BK, HB⟩ := hrel
      cases n with
      | zero =>
        have hlt : decide ((0 : Int) < ((0 : Nat) : Int)) = false := rfl
        go_wp2
        go_meet
        case rel => exact ⟨by rw [← HN.out.2]; rfl, BK, HB⟩
      | succ n =>
        have hlt : decide ((0 : Int) < ((n + 1 : Nat) : Int)) = true := decide_eq_true (by omega)
        have hgt : decide (((n + 1 : Nat) : Int) > 0) = true := decide_eq_true (by omega)
        obtain ⟨j, hjn⟩ : ∃ j : Int, j = (n : Int) := ⟨_, rfl⟩
        have hj : wrap64 (((n + 1 : Nat) : Int) - 1) = j := by have := HN.out; have := HL.out; unfold wrap64; omega
        have hj2 : wrap64 (n : Int) = j := by have := HN.out; have := HL.out; unfold wrap64; omega
        have q0 : 0 ≤ j := by omega
        have q1 : j < (l0.length : Int) := by have := HN.out; omega
        obtain ⟨ad, A2, c2, e4, hy, hl2, hi3⟩ := at_L2 HR0.out j q0 q1
        subst e4
        replace hy := (HB.out.cell (World.block_lt_of_cell? w _ hy)).trans hy
        have HC2 := Aside0.mk (Kd.C_below hi3 HB.out)
        have HCL := Aside0.mk hl2
        have HJ := Aside0.mk hjn
        have HJ2 := Aside0.mk (show wrap64 (n : Int) = (n : Int) by rw [hj2, hjn])
        have hsh : (rd_L2 l0 j).length ≤ 512 := by rw [hjn]; exact HBB.out n
        have HZ := Aside0.mk (zNought_eq (rd_L2 l0 j) (by omega))
        replace q0 := eq_true q0
        replace q1 := eq_true q1
        clear hi3 hl2 hjn hsh
        cases hz : nought (rd_L2 l0 j)
        all_goals rw [hz] at HZ
        · go_wp2_with (first | (go_at_call 58; (with_reducible refine (impl_zNought.calls _ A2 c2 (rd_L2 l0 j) false _ (by (with_reducible repeat (first | apply Kd.C_drewN | apply Kd.C_drew)); exact HC2.out) HCL.out HZ.out).mono ?_); rintro e w9 ⟨rfl, hd⟩; have n0_ := Aside0.mk (below_step HB.out hd.below); have n1_ := Aside0.mk (blk_below (g := gb) (o := .cells #[.slice none 0 0] 40 (0, 0)) BK.out hd.below); clear hd HB BK; have HB := n0_; have BK := n1_; clear n0_ n1_))
          go_meet
          case rel => exact ⟨by have h := HN.out.2; rw [← h]; unfold trim; rw [if_neg (by rw [show l0.getD n [] = rd_L2 l0 j by rw [HJ.out]; rfl, hz]; decide)]; rfl, BK, HB⟩
        · go_wp2_with (first | (go_at_call 58; (with_reducible refine (impl_zNought.calls _ A2 c2 (rd_L2 l0 j) true _ (by (with_reducible repeat (first | apply Kd.C_drewN | apply Kd.C_drew)); exact HC2.out) HCL.out HZ.out).mono ?_); rintro e w9 ⟨rfl, hd⟩; have n0_ := Aside0.mk (below_step HB.out hd.below); have n1_ := Aside0.mk (blk_below (g := gb) (o := .cells #[.slice none 0 0] 40 (0, 0)) BK.out hd.below); clear hd HB BK; have HB := n0_; have BK := n1_; clear n0_ n1_))
          go_roundw
          case rel => exact ⟨n, by rw [HJ2.out], ⟨by have := HN.out; omega, by rw [← HN.out.2]; conv => rhs; unfold trim; rw [if_pos (by rw [show l0.getD n [] = rd_L2 l0 j by rw [HJ.out]; rfl, hz])]⟩, BK, HB⟩
          case measure => rw [HJ2.out]; show ((n : Nat) : Int).toNat < ((n + 1 : Nat) : Int).toNat; omega
  case rest =>
    obtain ⟨rfl, BK, HB⟩ := hcut
    have HT := Aside0.mk (Nat.le_trans (trim_le l0 l0.length) HC0.out)
    have t1 : ((trim l0 l0.length : Nat) : Int) ≤ (c0 : Int) := by have := HT.out; omega
    have t2 := HT.out
    replace t1 := eq_true t1
    replace t2 := eq_true t2
    go_wp2_with (first
      | ((with_reducible refine gate_dst (N := 4) rfl ?_); refine box_event ?hg (N := 4) ?hd (cs := #[.slice none 0 0]) (t := 40) ?hr ?_; (case hd => rfl); (case hg => rfl); (case hr => first | (go_simp; done) | (go_simp; rfl)); intro gd hg w5 hbox hb; have n0_ := Aside0.mk (below_step HB.out hb); have n1_ := Aside0.mk (blk_below (g := gb) (o := .cells #[.slice none 0 0] 40 (0, 0)) BK.out hb); have n2_ := Aside0.mk (hbox); have n3_ := Aside0.mk ((by rw [hg]; exact below_size HB.out : w.heap.size ≤ gd)); have n4_ := Aside0.mk ((by rw [hg]; exact Nat.ne_of_lt (blk_lt (g := gb) (o := .cells #[.slice none 0 0] 40 (0, 0)) BK.out) : gb ≠ gd)); clear HB BK; have HB := n0_; have BK := n1_; have BD := n2_; have GD := n3_; have NB := n4_; clear n0_ n1_ n2_ n3_ n4_; clear hb hbox hg; have hcd := blk_cell BD.out 0; have hfd := blk_frozen BD.out 0))
    have HT2 := Aside0.mk (trim_le l0 l0.length)
    have BD2 : Aside0 ((w5.setCell ⟨gd, 0, none⟩ (.slice none 0 0)).heap[gd]? = some (.cells #[.slice none 0 0] 40 (0, 0))) := ⟨blk_put (cs := #[.slice none 0 0]) BD.out 0 _ rfl⟩
    have HB2 : Aside0 (Below w.heap.size w (w5.setCell ⟨gd, 0, none⟩ (.slice none 0 0))) := ⟨below_set HB.out GD.out⟩
    generalize hn : trim l0 l0.length = n at *
    go_loopw [6, 26] (fun v6 v26 w' => ∃ (i : Nat) (vd : Value), v26 = .int .i64 (i : Int) ∧ Aside0 (i ≤ n) ∧ Aside0 (Kd.S (Kd.slice 5 (Kd.int .u8)) 62 w' w.heap.size (fun k => k ≠ gb ∧ k ≠ gd) vd (l0.take i)) ∧ Aside0 (w'.heap[gb]? = some (.cells #[.slice none 0 0] 40 (0, 0))) ∧ Aside0 (w'.heap[gd]? = some (.cells #[vd] 40 (0, 0))) ∧ Aside0 (Below w.heap.size w w')) (fun _ v26 _ => n - (intOf v26).toNat)
    case atStart => exact ⟨0, _, rfl, ⟨Nat.zero_le _⟩, ⟨by rw [List.take_zero]; exact Kd.S_nil _ _ _ _ _⟩, ⟨blk_far BK.out NB.out _⟩, BD2, HB2⟩
    case round =>
      obtain ⟨i, vd, rfl, HI, HO, BK, BD, HB⟩ := hrel
      by_cases hi : i < n
      · have hlt : decide ((i : Int) < (n : Int)) = true := decide_eq_true (by omega)
        have hlt2 := eq_true hi
        have hil : i < l0.length := Nat.lt_of_lt_of_le hi HT2.out
        have q0 : (0 : Int) ≤ (i : Int) := by omega
        have q1 : (i : Int) < (l0.length : Int) := by omega
        have q2 : (i : Int) < (n : Int) := by omega
        obtain ⟨ad, A2, c2, e4, hy, hl2, hi3⟩ := at_L2 HR0.out (i : Int) q0 q1
        subst e4
        replace hy := (HB.out.cell (World.block_lt_of_cell? w _ hy)).trans hy
        simp only [Int.toNat_natCast] at hy
        have HC2 := Aside0.mk (Kd.C_below hi3 HB.out)
        have HCL := Aside0.mk hl2
        have HTK := Aside0.mk (show l0.take i ++ [rd_L2 l0 (i : Int)] = l0.take (i + 1) from take_step l0 i hil)
        have HLN := Aside0.mk (show (rd_L2 l0 (i : Int)).length ≤ 512 from HBB.out i)
        have HIL := Aside0.mk (show (l0.take i).length ≤ 512 by rw [List.length_take]; have := HL.out; omega)
        have HII := Aside0.mk hi
        have HBS := Aside0.mk (below_size HB.out)
        have HW := Aside0.mk (show wrap64 ((i : Int) + 1) = ((i + 1 : Nat) : Int) by have := HL.out; unfold wrap64; omega)
        have hcd := blk_cell BD.out 0
        have hfd := blk_frozen BD.out 0
        replace q0 := eq_true q0
        replace q1 := eq_true q1
        replace q2 := eq_true q2
        clear hi3 hl2 hil hi
        go_wp2
        go_region_law (first
          | ((refine Kd.R_append_rows_step (Kd.int .u8) _ rfl (.const (.slice none 0 0)) (.tmp 32) 62 5 (.int .u8 0) 1 rfl Try.underlying62 info5 rfl (by decide) (by omega) (.slice none 0 0) [] (rd_L2 l0 (i : Int)) A2 (rd_L2 l0 (i : Int)).length c2 (fun _ => True) (fun _ => False) (by simp [Act.eval, Act.put]) (by simp [Act.eval, Act.put]) (Kd.R_nil _ _ _ _ _) (by (with_reducible repeat (first | apply Kd.C_drewN | apply Kd.C_drew)); exact HC2.out) (fun _ _ h => h) (fun _ h => h.elim) (fun _ _ => trivial) (Below.refl _ _) (Nat.le_refl _) (by have := HLN.out; simp only [List.length_nil]; omega) ?_); intro v8 w8 ho8 hb8 hg8 hn8; clear hg8 hn8; rw [List.nil_append] at ho8; obtain ⟨A8, c8, e8⟩ := Kd.R_slice ho8; subst e8; have n0_ := Aside0.mk ho8; have n1_ := Aside0.mk (Kd.S_elder' (by (with_reducible repeat (first | apply Kd.S_alloc | apply Kd.S_drewN | apply Kd.S_drew)); exact HO.out) (Kd.R_base ho8) hb8); have n2_ := Aside0.mk (below_step (by repeat (first | (with_reducible first | exact HB.out | apply below_alloc | apply pw_below_drewN | apply below_drew1) | exact HB.out)) hb8); have n3_ := Aside0.mk (blk_below (g := gb) (o := .cells #[.slice none 0 0] 40 (0, 0)) (by (with_reducible repeat (first | refine blk_drewN ?_ _ | refine blk_drew ?_ | refine blk_alloc ?_ _)); exact BK.out) hb8); have n4_ := Aside0.mk (blk_below (g := gd) (o := .cells #[vd] 40 (0, 0)) (by (with_reducible repeat (first | refine blk_drewN ?_ _ | refine blk_drew ?_ | refine blk_alloc ?_ _)); exact BD.out) hb8); have hcd8 := blk_cell n4_.out 0; have hfd8 := blk_frozen n4_.out 0; have hcd8a := blk_cell (blk_alloc n4_.out (.cells #[Value.slice A8 (rd_L2 l0 (i : Int)).length c8] 62)) 0; have n5_ : Aside0 (∀ k, some k = (Value.slice A8 (rd_L2 l0 (i : Int)).length c8).ownBlock → wr.heap.size ≤ k ∧ k < w8.heap.size) := ⟨fun k hk => ⟨Kd.R_base ho8 k hk.symm, Kd.R_lt ho8 k hk.symm⟩⟩; clear ho8 hb8)
          | ((refine Kd.S_append_step (Kd.slice 5 (Kd.int .u8)) (w0 := w) w.heap.size rfl (.tmp 31) (.tmp 34) 34 62 (.slice none 0 0) 24 rfl Try.underlying34 info62 rfl (by decide) (by decide) vd (l0.take i) (rd_L2 l0 (i : Int)) [.slice A8 (rd_L2 l0 (i : Int)).length c8] (fun k => k ≠ gb ∧ k ≠ gd) (fun k => some k = (Value.slice A8 (rd_L2 l0 (i : Int)).length c8).ownBlock) (by simp [Act.eval, Act.put]) (by simp [Act.eval, Act.put]) ?aP ?aK ?aF ?aO ?aB ?aS ?aL ?_); (case aP => exact Kd.M_row (Kd.R_tight rfl (Kd.R_lower n0_.out HBS.out))); (case aK => intro k hk; have h8 := n5_.out k hk; have h9 := blk_lt BK.out; have h10 := blk_lt BD.out; exact ⟨⟨by omega, by omega⟩, fun he => by have h11 := Kd.S_lt HO.out k he.symm; omega⟩); (case aF => intro k hk; have h9 := blk_lt n3_.out; have h10 := blk_lt n4_.out; exact ⟨by omega, by omega⟩); (case aO => exact n1_.out); (case aB => exact n2_.out); (case aS => exact below_size n2_.out); (case aL => have := HIL.out; omega); intro v9 w9 ho9 hb9 hg9 hn9; clear hn9; rw [HTK.out] at ho9; obtain ⟨A9, c9, e9⟩ := Kd.S_slice ho9; subst e9; have m0_ := Aside0.mk ho9; have m1_ := Aside0.mk hb9; have m3_ := Aside0.mk (blk_grown n3_.out hg9 (Kd.S_ne HO.out BK.out (by decide))); have m4_ := Aside0.mk (blk_grown n4_.out hg9 (Kd.S_ne HO.out BD.out (by decide))); have hcd9 := blk_cell m4_.out 0; have hfd9 := blk_frozen m4_.out 0; clear ho9 hb9 hg9))
        all_goals go_wp2
        all_goals
          go_roundw
          case rel => exact ⟨i + 1, _, congrArg (Value.int .i64) HW.out, ⟨HII.out⟩, ⟨Kd.S_far (p := ⟨gd, 0, none⟩) m0_.out (fun k hk => hk.2) _⟩, ⟨blk_far m3_.out NB.out _⟩, ⟨blk_put (cs := #[vd]) m4_.out 0 _ (by rw [List.length_take]; rfl)⟩, ⟨below_set m1_.out GD.out⟩⟩
          case measure => rw [HW.out]; have := HII.out; show n - ((i + 1 : Nat) : Int).toNat < n - ((i : Nat) : Int).toNat; omega
      · have hlt : decide ((i : Int) < (n : Int)) = false := decide_eq_false (by omega)
        have hlt2 := eq_false hi
        obtain rfl : i = n := by have := HI.out; omega
        obtain ⟨A3, c3, rfl⟩ := Kd.S_slice HO.out
        have hcb := blk_cell BK.out 0
        have hfb := blk_frozen BK.out 0
        have hcd := blk_cell BD.out 0
        have hfd := blk_frozen BD.out 0
        go_wp2
        refine bodyPost_ret (results_cell_row rfl _ _ gb 40 #[.slice A3 (min i l0.length) c3] (0, 0) _ rfl (blk_put (cs := #[.slice none 0 0]) BK.out 0 _ rfl) Try.underlying40 rfl (by kernel_rfl)) rfl ?_
        exact ⟨_, rfl, by rw [hn, ← List.length_take]; exact Kd.S_mono (Kd.S_far (p := ⟨gb, 0, none⟩) HO.out (fun k hk => hk.1) _) (fun _ _ => trivial), below_set HB.out GE.out⟩
end Go.Proofs.Ytaicfmmgmblmiaa.QFnExactDiskCrash
