/- Proved: what impl.zBlocks does with a valid disk. Conditions: the disk has at most 512 blocks, each of at most 512 bytes. -/
import Derived.Test.YtaicfmmgmblmiaaDcA
import Derived.Deep.RegionLaw
namespace Go.Proofs.Ytaicfmmgmblmiaa.QFnExactDiskCrash
open Go.RowKit Go.Proofs.YtaicfmmgmblmiaaW.PrintWords Go.Proofs.YtaicfmmgmblmiaaW.PrintLast Go.Proofs.YtaicfmmgmblmiaaW.PrintMore
set_option linter.unusedVariables false
set_option linter.unusedSimpArgs false
/-- Block i of a disk, noughts behind it. -/
def blk (l : List (List Int)) (i : Nat) : List Int := (l.getD i []).take 512 ++ List.replicate (512 - (l.getD i []).length) 0
theorem set_step (l : List (List Int)) (n i : Nat) (z : List Int) : ((List.range i).map (blk l) ++ List.replicate (n + 1) []).set i z = (List.range i).map (blk l) ++ z :: List.replicate n [] := by
  simp [List.set_append, List.replicate_succ]
theorem range_step (l : List (List Int)) (n i : Nat) : (List.range (i + 1)).map (blk l) ++ List.replicate n [] = (List.range i).map (blk l) ++ blk l i :: List.replicate n [] := by
  simp [List.range_succ]
theorem blk_off (l : List (List Int)) (i : Nat) (h : ¬ i < l.length) : blk l i = List.replicate 512 0 := by
  unfold blk
  rw [show l.getD i [] = [] by simp [List.getD, List.getElem?_eq_none (Nat.le_of_not_lt h)]]
  rfl
theorem blk_on (l : List (List Int)) (i : Nat) : (rd_L2 l (i : Int)).take (min (rd_L2 l (i : Int)).length (List.replicate 512 (0 : Int)).length) ++ (List.replicate 512 (0 : Int)).drop (min (rd_L2 l (i : Int)).length (List.replicate 512 (0 : Int)).length) = blk l i := by
  unfold rd_L2 blk
  simp only [Int.toNat_natCast, List.length_replicate, List.drop_replicate]
  generalize l.getD i [] = b
  rcases Nat.le_total b.length 512 with h | h
  · rw [Nat.min_eq_left h, List.take_of_length_le (Nat.le_refl _), List.take_of_length_le h]
  · rw [Nat.min_eq_right h]
    simp [Nat.sub_eq_zero_of_le h]
set_option maxHeartbeats 8000000 in
set_option maxRecDepth 100000 in
theorem zBlocks_calls (A0 : Option Addr) (c0 : Nat) (l0 : List (List Int)) (w : World) (hr0 : Kd.C (Kd.slice 5 (Kd.int .u8)) w A0 l0.length l0) (hc0 : l0.length ≤ c0) :
    Calls Try.prog 41 #[.agg #[.slice A0 l0.length c0]] w fun e w' => ∃ v : Value, e = .returned v ∧ Kd.S (Kd.slice 5 (Kd.int .u8)) 62 w' w.heap.size (fun _ => True) v ((List.range 512).map (blk l0)) ∧ Below w.heap.size w w' := by
  have hu40 := Try.underlying40
  have HR0 := Aside0.mk hr0
  have HC0 := Aside0.mk hc0
  clear hr0 hc0
  have HB := Aside0.mk (Below.refl w.heap.size w)
  have c0b : (0 : Int) ≤ 512 := by decide
  go_enter Try.func41, Try.ntmps41
  go_wp2_with (first
    | ((with_reducible refine gate_dst (N := 1) rfl ?_); refine box_event ?hg (N := 1) ?hd (cs := #[.slice A0 l0.length c0]) (t := 40) ?hr ?_; (case hd => rfl); (case hg => rfl); (case hr => first | (go_simp; done) | (go_simp; rfl)); intro gb hg w3 hbox hb; have n0_ := Aside0.mk (below_step HB.out hb); have n1_ := Aside0.mk (hbox); have n2_ := Aside0.mk ((by rw [hg]; exact below_size HB.out : w.heap.size ≤ gb)); clear HB; have HB := n0_; have BK := n1_; have GE := n2_; clear n0_ n1_ n2_; clear hb hbox hg)
    | ((with_reducible refine gate_dst (N := 5) rfl ?_); refine Kd.S_make (Kd.slice 5 (Kd.int .u8)) _ 62 rfl (N := 5) rfl 34 _ _ rfl (512 : Int) rfl rfl Try.underlying34 (.slice none 0 0) 24 info62 rfl (by decide) (by omega) [] (ok := fun _ => True) (okp := fun _ => True) ⟨_, rfl, Kd.R_nil _ _ _ _ _⟩ (fun _ hk => hk) trivial (by decide) (by decide) (Below.refl _ _) (Nat.le_refl _) ?_; intro v182 w4 ho5 hb hg_ hnew_; obtain ⟨g, cap, e, hgb, hglt, hgc⟩ := Kd.S_form ho5 (by simp); simp only [Int.reduceToNat, List.length_replicate] at e ho5; subst e; have n0_ := Aside0.mk (Kd.S_lower ho5 (below_size HB.out)); have n1_ := Aside0.mk (below_step HB.out hb); have n2_ := Aside0.mk (blk_below (g := gb) (o := .cells #[.slice A0 l0.length c0] 40 (0, 0)) BK.out hb); have n3_ := Aside0.mk (Nat.le_trans (below_size HB.out) hgb); clear HB BK hg_ hnew_ hgc hglt hgb; have HO := n0_; have HB := n1_; have BK := n2_; have HG := n3_; clear n0_ n1_ n2_ n3_; clear hb ho5))
  go_loopw [4, 8] (fun v4 v8 w' => ∃ (n i : Nat), v8 = .int .i64 (i : Int) ∧ Aside0 (i + n = 512) ∧ Aside0 (Kd.S (Kd.slice 5 (Kd.int .u8)) 62 w' w.heap.size (fun _ => True) (.slice (some ⟨g, 0, none⟩) 512 cap) ((List.range i).map (blk l0) ++ List.replicate n [])) ∧ Aside0 (w'.heap[gb]? = some (.cells #[.slice A0 l0.length c0] 40 (0, 0))) ∧ Aside0 (Below w.heap.size w w')) (fun _ v8 _ => 1048576 - (intOf v8).toNat)
  case atStart => exact ⟨512, 0, rfl, ⟨rfl⟩, HO, BK, HB⟩
  case round =>
    obtain ⟨n, i, rfl, HI, HO, BK, HB⟩ := hrel
    cases n with
    | zero =>
      have hlt : decide ((i : Int) < (512 : Int)) = false := decide_eq_false (by have := HI.out; omega)
      go_wp2
      go_ret
      obtain rfl : i = 512 := by have := HI.out; omega
      exact ⟨_, rfl, by have := HO.out; rwa [List.replicate_zero, List.append_nil] at this, HB.out⟩
    | succ n =>
      have hlt : decide ((i : Int) < (512 : Int)) = true := decide_eq_true (by have := HI.out; omega)
      have q0 : (0 : Int) ≤ (i : Int) := by omega
      have q1 : (i : Int) < ((512 : Nat) : Int) := by have := HI.out; omega
      have q2 : (i : Int) < (512 : Int) := q1
      replace q0 := eq_true q0
      replace q1 := eq_true q1
      replace q2 := eq_true q2
      have HW := Aside0.mk (show wrap64 ((i : Int) + 1) = ((i + 1 : Nat) : Int) by have := HI.out; unfold wrap64; omega)
      by_cases hi : i < l0.length
      · have hi1 : decide ((i : Int) < (l0.length : Int)) = true := decide_eq_true (by omega)
        have hi2 := eq_true hi
        clear hi
        go_wp2_with (first
          | ((with_reducible refine gate_dst (N := 13) rfl ?_); refine Kd.R_make (Kd.int .u8) _ 5 rfl (N := 13) rfl 62 _ _ rfl 512 rfl rfl Try.underlying62 (.int .u8 0) 1 info5 rfl (by decide) (by omega) 0 (ok := fun _ => True) (okp := fun _ => True) rfl (fun _ hk => hk) trivial (by omega) (by omega) (Below.refl _ _) (Nat.le_refl _) ?_; intro v125 w16 ho17 hb hg_ hnew_;
              obtain ⟨g2, cap2, e, hgb2, hglt2, hgc2⟩ := Kd.R_form ho17 (by simp); simp only [Int.reduceToNat, List.length_replicate] at e ho17; subst e;
              have hS := Kd.S_elder' HO.out (Kd.R_base ho17) hb;
              have hne : ∀ k, some k = (Value.slice (some ⟨g2, 0, none⟩) 512 cap2).ownBlock → k ≠ g := fun k hk he => ((Kd.R_apart' ho17 (Kd.S_typed hS) (by decide)).1 k hk.symm).2 (by rw [he]; rfl);
              obtain ⟨oki, cs, hcl, hM, hcc, hfr, hoki, hH⟩ := Kd.S_elem (Kd.S_mono (ok' := fun k => True ∧ ¬ (some k = (Value.slice (some ⟨g2, 0, none⟩) 512 cap2).ownBlock)) hS (fun k hk => ⟨trivial, hk.2⟩)) [] (i : Int) (of_eq_true q0) (of_eq_true q1);
              have HP := Kd.S_seg (ok := fun _ => True) (okg := fun k => some k = (Value.slice (some ⟨g2, 0, none⟩) 512 cap2).ownBlock) hH (of_eq_true q0) (of_eq_true q1) (seg := [.slice (some ⟨g2, 0, none⟩) 512 cap2]) (j := 0) (show 1 ≤ 1 from by decide) (x' := List.replicate 512 0) (okp := fun k => some k = (Value.slice (some ⟨g2, 0, none⟩) 512 cap2).ownBlock) (by obtain ⟨_, rfl, _⟩ := hM; exact Kd.M_row (Kd.R_tight rfl (Kd.R_lower ho17 (below_size HB.out)))) (fun k hk => .inr hk) (fun k hk => ⟨trivial, hne k hk⟩);
              obtain ⟨ve, rfl, _⟩ := hM;
              have hx := hcc 0 _ rfl; have hf := hfr 0;
              simp only [Int.toNat_natCast, show ((Kd.slice 5 (Kd.int .u8))).sz = 1 from rfl, Nat.mul_one, Nat.add_zero] at hx hf HP;
              have hbk := blk_below (g := gb) (o := .cells #[.slice A0 l0.length c0] 40 (0, 0)) BK.out hb;
              have hnn := Kd.S_ne hS hbk (by decide);
              have n0_ : Aside0 (Kd.S (Kd.slice 5 (Kd.int .u8)) 62 (w16.setCell ⟨g, i, none⟩ (.slice (some ⟨g2, 0, none⟩) 512 cap2)) w.heap.size (fun _ => True) (.slice (some ⟨g, 0, none⟩) 512 cap) (((List.range i).map (blk l0) ++ List.replicate (n + 1) []).set i (List.replicate 512 0))) := ⟨HP.1⟩;
              have n1_ := Aside0.mk (below_set (g := g) (j := i) (v := .slice (some ⟨g2, 0, none⟩) 512 cap2) (below_step HB.out hb) HG.out);
              have n2_ : Aside0 ((w16.setCell ⟨g, i, none⟩ (.slice (some ⟨g2, 0, none⟩) 512 cap2)).heap[gb]? = some (.cells #[.slice A0 l0.length c0] 40 (0, 0))) := ⟨blk_grown hbk HP.2 hnn⟩;
              clear HO HB BK hS hcc hfr hcl hoki hH hb ho17 HP hbk hnn; have HO := n0_; have HB := n1_; have BK := n2_; clear n0_ n1_ n2_)
          | ((with_reducible refine gate_store (t := 62) (p := 14) rfl ?_); refine store_event (t := 62) (p := 14) (v := ?vo) (w1 := (w16.setCell ⟨g, i, none⟩ (.slice (some ⟨g2, 0, none⟩) 512 cap2))) ?hg ?ho ?hn ?hr ?_; (case ho => rfl); (case hg => rfl); (case hn => rfl); (case hr => first | (go_simp; done) | (go_simp; rfl)); intro w17 hw; rw [← hw] at HO HB BK; clear hx hf hw;
              have hcz := blk_cell BK.out 0; have hfz := blk_frozen BK.out 0))
        have hgd : (((List.range i).map (blk l0) ++ List.replicate (n + 1) []).set i (List.replicate 512 0)).getD i [] = List.replicate 512 0 := by rw [set_step]; simp
        obtain ⟨oki, cs, hcl, hM, hcc, hfr, hoki, hH⟩ := Kd.S_elem HO.out [] (i : Int) (of_eq_true q0) (of_eq_true q1)
        simp only [Int.toNat_natCast, hgd] at hM hcc hH hfr
        obtain ⟨ve, rfl, hR⟩ := hM
        obtain ⟨g3, cap3, e3, hgb3, hglt3, hgc3⟩ := Kd.R_form hR (by simp)
        simp only [List.length_replicate] at e3
        subst e3
        obtain ⟨ad, A2, c2, e4, hy, hl2, hi3⟩ := at_L2 HR0.out (i : Int) (of_eq_true q0) (of_decide_eq_true hi1)
        subst e4
        replace hy := (HB.out.cell (World.block_lt_of_cell? w _ hy)).trans hy
        simp only [Int.toNat_natCast] at hy
        have HC2 := Aside0.mk (Kd.C_below hi3 HB.out)
        have hx := hcc 0 _ rfl
        have hf := hfr 0
        simp only [show ((Kd.slice 5 (Kd.int .u8))).sz = 1 from rfl, Nat.mul_one, Nat.add_zero] at hx hf
        have HRR := Aside0.mk hR
        have HH := Aside0.mk hH
        clear hR hcc hfr hi3 hl2 hgc3 hgd hH
        go_region_law (refine R_copy_step (enc := fun x => .int .u8 x) (h1 := fun _ => rfl) 0 (w0 := w) w.heap.size rfl (.tmp 23) (.tmp 28) 62 62 5 rfl Try.underlying62 rfl (.slice (some ⟨g3, 0, none⟩) 512 cap3) (List.replicate 512 0) (rd_L2 l0 (i : Int)) A2 (rd_L2 l0 (i : Int)).length c2 oki (by simp [Act.eval, Act.put]) (by simp [Act.eval, Act.put]) (by (with_reducible repeat (first | apply Kd.R_drewN | apply Kd.R_drew)); exact HRR.out) (by (with_reducible repeat (first | apply Kd.C_drewN | apply Kd.C_drew)); exact HC2.out) (by repeat (first | (with_reducible first | exact HB.out | apply below_alloc | apply pw_below_drewN | apply below_drew1) | exact HB.out)) (below_size (by repeat (first | (with_reducible first | exact HB.out | apply below_alloc | apply pw_below_drewN | apply below_drew1) | exact HB.out))) ?_; intro w19 hrow hb2 hg2; (have HK := Aside0.mk (show Kept w17 w19 (fun k => some k = (Value.slice (some ⟨g3, 0, none⟩) 512 cap3).ownBlock) from ⟨by have h9 := hg2.size; exact h9, fun k hlt hn => hg2.block k hlt hn⟩)); (have n0_ := Aside0.mk (Kd.H_back (Kd.H_kept HH.out HK.out (fun k _ hn hs => hn (HRR.out.1 k hs.symm))) (Kd.M_row hrow) (fun _ h => h))); (have n1_ := Aside0.mk hb2); (have n2_ := Aside0.mk ((HK.out.2 gb (blk_lt BK.out) (Kd.R_ne HRR.out BK.out (by decide))).trans BK.out)); clear hrow hb2 hg2 HK)
        all_goals go_wp2
        all_goals
          go_roundw
          case rel => exact ⟨n, i + 1, congrArg (Value.int .i64) HW.out, ⟨by have := HI.out; omega⟩, ⟨by have h := n0_.out; rw [Int.toNat_natCast, List.set_set, blk_on, set_step, ← range_step] at h; exact h⟩, n2_, n1_⟩
          case measure => rw [HW.out]; have := HI.out; show 1048576 - ((i + 1 : Nat) : Int).toNat < 1048576 - ((i : Nat) : Int).toNat; omega
      · have HN := Aside0.mk hi
        have hi1 : decide ((i : Int) < (l0.length : Int)) = false := decide_eq_false (by omega)
        have hi2 := eq_false hi
        clear hi
        go_wp2_with (first
          | ((with_reducible refine gate_dst (N := 13) rfl ?_); refine Kd.R_make (Kd.int .u8) _ 5 rfl (N := 13) rfl 62 _ _ rfl 512 rfl rfl Try.underlying62 (.int .u8 0) 1 info5 rfl (by decide) (by omega) 0 (ok := fun _ => True) (okp := fun _ => True) rfl (fun _ hk => hk) trivial (by omega) (by omega) (Below.refl _ _) (Nat.le_refl _) ?_; intro v125 w16 ho17 hb hg_ hnew_;
              obtain ⟨g2, cap2, e, hgb2, hglt2, hgc2⟩ := Kd.R_form ho17 (by simp); simp only [Int.reduceToNat, List.length_replicate] at e ho17; subst e;
              have hS := Kd.S_elder' HO.out (Kd.R_base ho17) hb;
              have hne : ∀ k, some k = (Value.slice (some ⟨g2, 0, none⟩) 512 cap2).ownBlock → k ≠ g := fun k hk he => ((Kd.R_apart' ho17 (Kd.S_typed hS) (by decide)).1 k hk.symm).2 (by rw [he]; rfl);
              obtain ⟨oki, cs, hcl, hM, hcc, hfr, hoki, hH⟩ := Kd.S_elem (Kd.S_mono (ok' := fun k => True ∧ ¬ (some k = (Value.slice (some ⟨g2, 0, none⟩) 512 cap2).ownBlock)) hS (fun k hk => ⟨trivial, hk.2⟩)) [] (i : Int) (of_eq_true q0) (of_eq_true q1);
              have HP := Kd.S_seg (ok := fun _ => True) (okg := fun k => some k = (Value.slice (some ⟨g2, 0, none⟩) 512 cap2).ownBlock) hH (of_eq_true q0) (of_eq_true q1) (seg := [.slice (some ⟨g2, 0, none⟩) 512 cap2]) (j := 0) (show 1 ≤ 1 from by decide) (x' := List.replicate 512 0) (okp := fun k => some k = (Value.slice (some ⟨g2, 0, none⟩) 512 cap2).ownBlock) (by obtain ⟨_, rfl, _⟩ := hM; exact Kd.M_row (Kd.R_tight rfl (Kd.R_lower ho17 (below_size HB.out)))) (fun k hk => .inr hk) (fun k hk => ⟨trivial, hne k hk⟩);
              obtain ⟨ve, rfl, _⟩ := hM;
              have hx := hcc 0 _ rfl; have hf := hfr 0;
              simp only [Int.toNat_natCast, show ((Kd.slice 5 (Kd.int .u8))).sz = 1 from rfl, Nat.mul_one, Nat.add_zero] at hx hf HP;
              have hbk := blk_below (g := gb) (o := .cells #[.slice A0 l0.length c0] 40 (0, 0)) BK.out hb;
              have hnn := Kd.S_ne hS hbk (by decide);
              have n0_ : Aside0 (Kd.S (Kd.slice 5 (Kd.int .u8)) 62 (w16.setCell ⟨g, i, none⟩ (.slice (some ⟨g2, 0, none⟩) 512 cap2)) w.heap.size (fun _ => True) (.slice (some ⟨g, 0, none⟩) 512 cap) (((List.range i).map (blk l0) ++ List.replicate (n + 1) []).set i (List.replicate 512 0))) := ⟨HP.1⟩;
              have n1_ := Aside0.mk (below_set (g := g) (j := i) (v := .slice (some ⟨g2, 0, none⟩) 512 cap2) (below_step HB.out hb) HG.out);
              have n2_ : Aside0 ((w16.setCell ⟨g, i, none⟩ (.slice (some ⟨g2, 0, none⟩) 512 cap2)).heap[gb]? = some (.cells #[.slice A0 l0.length c0] 40 (0, 0))) := ⟨blk_grown hbk HP.2 hnn⟩;
              clear HO HB BK hS hcc hfr hcl hoki hH hb ho17 HP hbk hnn; have HO := n0_; have HB := n1_; have BK := n2_; clear n0_ n1_ n2_)
          | ((with_reducible refine gate_store (t := 62) (p := 14) rfl ?_); refine store_event (t := 62) (p := 14) (v := ?vo) (w1 := (w16.setCell ⟨g, i, none⟩ (.slice (some ⟨g2, 0, none⟩) 512 cap2))) ?hg ?ho ?hn ?hr ?_; (case ho => rfl); (case hg => rfl); (case hn => rfl); (case hr => first | (go_simp; done) | (go_simp; rfl)); intro w17 hw; rw [← hw] at HO HB BK; clear hx hf hw;
              have hcz := blk_cell BK.out 0; have hfz := blk_frozen BK.out 0))
        go_roundw
        case rel => exact ⟨n, i + 1, congrArg (Value.int .i64) HW.out, ⟨by have := HI.out; omega⟩, ⟨by rw [range_step, blk_off _ _ HN.out, ← set_step]; exact HO.out⟩, BK, HB⟩
        case measure => rw [HW.out]; have := HI.out; show 1048576 - ((i + 1 : Nat) : Int).toNat < 1048576 - ((i : Nat) : Int).toNat; omega
end Go.Proofs.Ytaicfmmgmblmiaa.QFnExactDiskCrash
