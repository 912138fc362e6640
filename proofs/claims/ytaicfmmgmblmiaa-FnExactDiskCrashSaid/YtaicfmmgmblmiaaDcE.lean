/- Proved: what spec.l13Crash answers. Conditions: the arguments are read as lists; the disk and the writes are valid. -/
import Derived.Test.YtaicfmmgmblmiaaDcD
namespace Go.Proofs.Ytaicfmmgmblmiaa.QFnExactDiskCrash
open Go.RowKit Go.Proofs.YtaicfmmgmblmiaaW.PrintWords Go.Proofs.YtaicfmmgmblmiaaW.PrintLast Go.Proofs.YtaicfmmgmblmiaaW.PrintMore
set_option linter.unusedVariables false
set_option linter.unusedSimpArgs false

/-- A disk that is valid. -/
def Valid (l : List (List Int)) : Prop := l.length ≤ 512 ∧ ∀ i, (l.getD i []).length = 0 ∨ (l.getD i []).length = 512
def putS (l : List (List Int)) (b : Nat) (z : List Int) : List (List Int) := (l ++ List.replicate (b + 1 - l.length) (List.replicate 512 0)).set b z
def crashS (cs : List Int) : List S66 → Nat → List (List Int) → List (List Int)
  | [], _, l => l
  | x :: ws, i, l => crashS cs ws (i + 1) (putS l x.f0.toNat (x.f1.take (cutN cs i) ++ (blk l x.f0.toNat).drop (cutN cs i)))
theorem crashS_step (cs : List Int) (ws : List S66) (i : Nat) (hi : i < ws.length) (l : List (List Int)) : crashS cs (ws.drop i) i l = crashS cs (ws.drop (i + 1)) (i + 1) (putS l (rd_T66 ws (i : Int)).f0.toNat ((rd_T66 ws (i : Int)).f1.take (cutN cs i) ++ (blk l (rd_T66 ws (i : Int)).f0.toNat).drop (cutN cs i))) := by
  rw [List.drop_eq_getElem_cons hi, show rd_T66 ws (i : Int) = ws[i] by simp [rd_T66, List.getD, hi]]
  rfl
theorem crashS_end (cs : List Int) (ws : List S66) (i : Nat) (hi : ws.length ≤ i) (l : List (List Int)) : crashS cs (ws.drop i) i l = l := by
  rw [List.drop_of_length_le hi]
  rfl
theorem blk_len {l : List (List Int)} (i : Nat) : (blk l i).length = 512 := by
  rw [blk, List.length_append, List.length_take, List.length_replicate]
  omega
theorem put_len (l : List (List Int)) (b : Nat) (z : List Int) : (putS l b z).length = max l.length (b + 1) := by
  rw [putS, List.length_set, List.length_append, List.length_replicate]
  omega
theorem put_at (l : List (List Int)) (b : Nat) (z : List Int) : (putS l b z).getD b [] = z := by
  have h : b < (l ++ List.replicate (b + 1 - l.length) (List.replicate 512 (0 : Int))).length := by rw [List.length_append, List.length_replicate]; omega
  simp only [putS, List.getD_eq_getElem?_getD, List.getElem?_set_self h, Option.getD_some]
theorem put_off (l : List (List Int)) (b : Nat) (z : List Int) (i : Nat) (hi : i ≠ b) : (putS l b z).getD i [] = if i < l.length then l.getD i [] else if i < b + 1 then List.replicate 512 0 else [] := by
  simp only [putS, List.getD_eq_getElem?_getD, List.getElem?_set_ne (fun h => hi h.symm)]
  split
  · rename_i h
    rw [List.getElem?_append_left h]
  · rename_i h
    rw [List.getElem?_append_right (by omega), List.getElem?_replicate]
    split
    · rw [if_pos (by omega)]; rfl
    · rw [if_neg (by omega)]; rfl
theorem valid_put {l : List (List Int)} (h : Valid l) {b : Nat} (hb : b < 512) {z : List Int} (hz : z.length = 512) : Valid (putS l b z) := by
  refine ⟨by rw [put_len]; have := h.1; omega, fun i => ?_⟩
  by_cases e : i = b
  · rw [e, put_at]; exact .inr hz
  · rw [put_off l b z i e]
    split
    · exact h.2 i
    · split
      · exact .inr List.length_replicate
      · exact .inl rfl
theorem block_eq {l : List (List Int)} (h : Valid l) {a : Int} (h0 : 0 ≤ a) (h1 : a < 512) : spec_l13Block.f l a = some (blk l a.toNat) := by
  unfold spec_l13Block.f
  by_cases c : a < (l.length : Int)
  · rw [if_pos c, if_pos h0]
    rcases h.2 a.toNat with e | e
    · have e1 : ¬ ((rd_L2 l a).length : Int) > 0 := by show ¬ ((l.getD a.toNat []).length : Int) > 0; omega
      rw [if_neg e1, if_pos (by decide), blk, e, List.eq_nil_of_length_eq_zero e]
      rfl
    · have e1 : ((rd_L2 l a).length : Int) > 0 := by show ((l.getD a.toNat []).length : Int) > 0; omega
      have e2 : (rd_L2 l a).length = 512 := e
      rw [if_pos e1, Option.bind_some, if_pos (by rw [e2]; decide), List.nil_append, blk, e, List.take_of_length_le (by omega), Nat.sub_self, List.replicate_zero, List.append_nil]
      rfl
  · rw [if_neg c, if_pos (by decide), blk, show l.getD a.toNat [] = [] by simp [List.getD, List.getElem?_eq_none (show l.length ≤ a.toNat by omega)]]
    rfl
theorem put_loop {a : Int} (h0 : 0 ≤ a) (h1 : a < 512) (z : List Int) (hz : z.length = 512) : ∀ (n : Nat) (l : List (List Int)), a.toNat + 1 - l.length ≤ n → l.length ≤ 512 → spec_l13Put.l0 (n + 1) a z l = some (putS l a.toNat z) := by
  intro n
  induction n with
  | zero =>
    intro l hn hl
    simp only [spec_l13Put.l0]
    rw [if_neg (by omega), Option.bind_some, if_pos (by rw [hz]; decide), if_pos h0, if_pos (by omega), List.nil_append, putS, show a.toNat + 1 - l.length = 0 by omega, List.replicate_zero, List.append_nil]
  | succ n ih =>
    intro l hn hl
    by_cases c : (l.length : Int) ≤ a
    · obtain ⟨q, hq⟩ : ∃ q, q = n + 1 := ⟨_, rfl⟩
      rw [← hq] at ih ⊢
      simp only [spec_l13Put.l0]
      rw [if_pos c, if_pos (by decide), if_pos (by omega), ih (l ++ [List.replicate 512 0]) (by rw [List.length_append, List.length_singleton]; omega) (by rw [List.length_append, List.length_singleton]; omega)]
      unfold putS
      rw [List.length_append, List.length_singleton, List.append_assoc, show a.toNat + 1 - l.length = (a.toNat + 1 - (l.length + 1)) + 1 by omega]
      generalize List.replicate 512 (0 : Int) = Z
      rw [List.replicate_succ, List.singleton_append]
    · obtain ⟨q, hq⟩ : ∃ q, q = n + 1 := ⟨_, rfl⟩
      rw [← hq]
      simp only [spec_l13Put.l0]
      rw [if_neg c, Option.bind_some, if_pos (by rw [hz]; decide), if_pos h0, if_pos (by omega), List.nil_append, putS, show a.toNat + 1 - l.length = 0 by omega, List.replicate_zero, List.append_nil]
theorem put_eq {l : List (List Int)} (hl : l.length ≤ 512) {a : Int} (h0 : 0 ≤ a) (h1 : a < 512) (z : List Int) (hz : z.length = 512) : spec_l13Put.f 514 l a z = some (putS l a.toNat z) := by
  unfold spec_l13Put.f
  rw [Option.bind_some, if_pos (by simp only [List.length_nil]; omega), List.nil_append]
  exact put_loop h0 h1 z hz 513 l (by omega) hl
theorem put_n (P0_ : Nat → Prop) (A0 : Option Addr) (c0 : Nat) (l0 : List (List Int)) (a1 : Int) (A2 : Option Addr) (c2 n : Nat) (l2 : List Int) (r : List (List Int)) (w : World) (hn : l2.length = n) (hs0 : Kd.V (Kd.slice 5 (Kd.int .u8)) 62 w w.heap.size P0_ (.slice A0 l0.length c0) l0) (hr2 : Kd.C (Kd.int .u8) w A2 l2.length l2) (hc2 : l2.length ≤ c2) (h : spec_l13Put.f 514 l0 a1 l2 = some r) :
    Calls Try.prog 56 #[.agg #[.slice A0 l0.length c0], .int .i64 a1, .slice A2 n c2] w fun e w' => ∃ v0_ : Value, e = .returned (.agg #[v0_]) ∧ Kd.N (Kd.slice 5 (Kd.int .u8)) 62 w' w.heap.size (fun k_ => (P0_ k_ ∨ w.heap.size ≤ k_)) v0_ r ∧ Below w.heap.size w w' := by
  subst hn
  exact spec_l13Put.calls 514 P0_ A0 c0 l0 a1 A2 c2 l2 r w hs0 hr2 hc2 h

set_option maxHeartbeats 8000000 in
set_option maxRecDepth 100000 in
theorem crash_calls (A0 : Option Addr) (c0 : Nat) (l0 : List (List Int)) (A1 : Option Addr) (c1 : Nat) (ws : List S66) (A2 : Option Addr) (c2 : Nat) (cs : List Int) (w : World) (hr0 : Kd.C (Kd.slice 5 (Kd.int .u8)) w A0 l0.length l0) (hc0 : l0.length ≤ c0) (hr1 : Kd.C k66 w A1 ws.length ws) (hc1 : ws.length ≤ c1) (hr2 : Kd.C (Kd.int .i64) w A2 cs.length cs) (hc2 : cs.length ≤ c2) (hval : Valid l0) (hlen : ws.length ≤ 512) (hgood : ∀ i, i < ws.length → goodW (rd_T66 ws (i : Int)) = true) (hcs : ∀ i, -9223372036854775808 ≤ cs.getD i 0 ∧ cs.getD i 0 ≤ 9223372036854775807) (hcl : cs.length ≤ 9223372036854775807) :
    Calls Try.prog 37 #[.agg #[.slice A0 l0.length c0], .slice A1 ws.length c1, .slice A2 cs.length c2] w fun e w' => ∃ (A : Option Addr) (c : Nat), e = .returned (.agg #[.slice A (crashS cs ws 0 l0).length c]) ∧ (crashS cs ws 0 l0).length ≤ c ∧ Kd.C (Kd.slice 5 (Kd.int .u8)) w' A (crashS cs ws 0 l0).length (crashS cs ws 0 l0) ∧ Below w.heap.size w w' := by
  have hu40 := Try.underlying40
  have hu66 := Try.underlying66
  have HR0 := Aside0.mk hr0
  have HC0 := Aside0.mk hc0
  have HR1 := Aside0.mk hr1
  have HC1 := Aside0.mk hc1
  have HR2 := Aside0.mk hr2
  have HC2 := Aside0.mk hc2
  have HVAL := Aside0.mk hval
  have HLEN := Aside0.mk hlen
  have HGOOD := Aside0.mk hgood
  have HCS := Aside0.mk hcs
  have HCL := Aside0.mk hcl
  clear hr0 hc0 hr1 hc1 hr2 hc2 hval hlen hgood hcs hcl
  have HB := Aside0.mk (Below.refl w.heap.size w)
  go_enter Try.func37, Try.ntmps37
  go_wp2_with (first
    | ((with_reducible refine gate_dst (N := 3) rfl ?_); refine box_event ?hg (N := 3) ?hd (cs := #[.slice A0 l0.length c0]) (t := 40) ?hr ?_; (case hd => rfl); (case hg => rfl); (case hr => first | (go_simp; done) | (go_simp; rfl)); intro g3 hg w3 hbox hb; have GEg3 := Aside0.mk (show w.heap.size ≤ g3 by rw [hg]; exact (below_size (by repeat (first | (with_reducible first | exact HB.out | apply below_alloc | apply pw_below_drewN | apply below_drew1) | exact HB.out)))); have n0_ := Aside0.mk (below_step (by repeat (first | (with_reducible first | exact HB.out | apply below_alloc | apply pw_below_drewN | apply below_drew1) | exact HB.out)) hb); clear HB; have HB := n0_; clear n0_; have BKg3 := Aside0.mk hbox; clear hb hbox hg; have hcg3_0_w3 : w3.cell? ⟨g3, 0, none⟩ = some (.slice A0 l0.length c0) := (blk_cell BKg3.out 0).trans rfl; have hfg3_0_w3 := blk_frozen BKg3.out 0)
    | ((with_reducible refine gate_dst (N := 6) rfl ?_); refine box_event ?hg (N := 6) ?hd (cs := #[.slice none 0 0]) (t := 40) ?hr ?_; (case hd => rfl); (case hg => rfl); (case hr => first | (go_simp; done) | (go_simp; rfl)); intro g6 hg w6 hbox hb; have GEg6 := Aside0.mk (show w.heap.size ≤ g6 by rw [hg]; exact (below_size (by repeat (first | (with_reducible first | exact HB.out | apply below_alloc | apply pw_below_drewN | apply below_drew1) | exact HB.out)))); have Ng3_g6 := Aside0.mk (show g3 ≠ g6 by rw [hg]; exact Nat.ne_of_lt (blk_lt (g := g3) (o := .cells #[.slice A0 l0.length c0] 40 (0, 0)) (by (with_reducible repeat (first | refine blk_drewN ?_ _ | refine blk_drew ?_ | refine blk_alloc ?_ _)); exact BKg3.out))); have n0_ := Aside0.mk (below_step (by repeat (first | (with_reducible first | exact HB.out | apply below_alloc | apply pw_below_drewN | apply below_drew1) | exact HB.out)) hb); have n1_ := Aside0.mk (blk_below (g := g3) (o := .cells #[.slice A0 l0.length c0] 40 (0, 0)) (by (with_reducible repeat (first | refine blk_drewN ?_ _ | refine blk_drew ?_ | refine blk_alloc ?_ _)); exact BKg3.out) hb); clear HB BKg3; have HB := n0_; have BKg3 := n1_; clear n0_ n1_; have BKg6 := Aside0.mk hbox; clear hb hbox hg; have hcg6_0_w6 : w6.cell? ⟨g6, 0, none⟩ = some (.slice none 0 0) := (blk_cell BKg6.out 0).trans rfl; have hfg6_0_w6 := blk_frozen BKg6.out 0))
  have HV : Aside0 (Kd.V (Kd.slice 5 (Kd.int .u8)) 62 _ w.heap.size (fun k => k ≠ g3 ∧ k ≠ g6) (.slice A0 l0.length c0) l0) := ⟨Kd.V_below (base := w.heap.size) (Kd.V_mono (Kd.V_mk HC0.out (Kd.C_F (Kd.heap_slice 5 (Kd.heap_int .u8)) HR0.out)) (fun k hk => ⟨by have := GEg3.out; omega, by have := GEg6.out; omega⟩)) HB.out⟩
  go_loopw [14] (fun v14 w' => ∃ (n i : Nat) (dl : List (List Int)) (Ad : Option Addr) (cd : Nat), v14 = .int .i64 (i : Int) ∧ Aside0 (i + n = ws.length) ∧ Aside0 (Valid dl) ∧ Aside0 (crashS cs (ws.drop i) i dl = crashS cs ws 0 l0) ∧ Aside0 (Kd.V (Kd.slice 5 (Kd.int .u8)) 62 w' w.heap.size (fun k => k ≠ g3 ∧ k ≠ g6) (.slice Ad dl.length cd) dl) ∧ Aside0 (w'.heap[g3]? = some (.cells #[.slice Ad dl.length cd] 40 (0, 0))) ∧ Aside0 (w'.heap[g6]? = some (.cells #[.slice none 0 0] 40 (0, 0))) ∧ Aside0 (Below w.heap.size w w')) (fun v14 _ => 1048576 - (intOf v14).toNat)
  case atStart => exact ⟨ws.length, 0, l0, A0, c0, rfl, ⟨by omega⟩, HVAL, ⟨rfl⟩, HV, BKg3, BKg6, HB⟩
  case round =>
    clear HV
    obtain ⟨n, i, dl, Ad, cd, rfl, HI, HF, HCR, HV, BKg3, BKg6, HB⟩ := hrel
    have HW := Aside0.mk (show wrap64 ((i : Int) + 1) = ((i + 1 : Nat) : Int) by have := HI.out; have := HLEN.out; unfold wrap64; omega)
    cases n with
    | zero =>
      have hlt : decide ((i : Int) < (ws.length : Int)) = false := decide_eq_false (by have := HI.out; omega)
      have hlt2 : decide (i < ws.length) = false := decide_eq_false (by have := HI.out; omega)
      have hcg3_0_wr : wr.cell? ⟨g3, 0, none⟩ = some (.slice Ad dl.length cd) := (blk_cell BKg3.out 0).trans rfl; have hfg3_0_wr := blk_frozen BKg3.out 0; have hcg6_0_wr : wr.cell? ⟨g6, 0, none⟩ = some (.slice none 0 0) := (blk_cell BKg6.out 0).trans rfl; have hfg6_0_wr := blk_frozen BKg6.out 0
      have HZ := Aside0.mk ((crashS_end cs ws i (by have := HI.out; omega) dl).symm.trans HCR.out)
      go_wp2
      refine bodyPost_ret (results_cell_row rfl _ _ g6 40 #[.slice Ad dl.length cd] (0, 0) _ rfl (by (with_reducible repeat (first | refine blk_drewN ?_ _ | refine blk_drew ?_ | refine blk_alloc ?_ _)); refine blk_put (cs := #[.slice none 0 0]) ?_ 0 _ rfl; (with_reducible repeat (first | refine blk_drewN ?_ _ | refine blk_drew ?_ | refine blk_alloc ?_ _)); exact BKg6.out) Try.underlying40 rfl (by kernel_rfl)) rfl ?_
      have h9 := Kd.V_reads' (Kd.V_far (p := ⟨g6, 0, none⟩) HV.out (fun k hk => hk.2) (.slice Ad dl.length cd))
      rw [← HZ.out]
      exact ⟨Ad, cd, rfl, h9.2.1, h9.2.2, below_set HB.out GEg6.out⟩
    | succ n =>
      have HIN := Aside0.mk (show i < ws.length by have := HI.out; omega)
      have hlt : decide ((i : Int) < (ws.length : Int)) = true := decide_eq_true (by have := HIN.out; omega)
      have hlt2 : decide (i < ws.length) = true := decide_eq_true HIN.out
      have q0 : (0 : Int) ≤ (i : Int) := by omega
      have q1 : (i : Int) < (ws.length : Int) := by have := HIN.out; omega
      obtain ⟨ad, A9, c9, e9, hx0, hx1, hl9, hi9⟩ := at_T66 HR1.out (i : Int) q0 q1
      subst e9
      replace hx0 := (HB.out.cell (World.block_lt_of_cell? w _ hx0)).trans hx0
      replace hx1 := (HB.out.cell (World.block_lt_of_cell? w _ hx1)).trans hx1
      simp only [Int.toNat_natCast] at hx0 hx1
      have HX := Aside0.mk hi9
      have HCX := Aside0.mk hl9
      obtain ⟨x, hX⟩ : ∃ x, rd_T66 ws (i : Int) = x := ⟨_, rfl⟩
      rw [hX] at hx0 hx1 HX HCX
      have HXX := Aside0.mk hX
      have hg := HGOOD.out i HIN.out
      rw [hX] at hg
      obtain ⟨g0, g1, g2⟩ := goodW_of hg
      have HG := Aside0.mk (And.intro g0 (And.intro g1 g2))
      replace q0 := eq_true q0
      replace q1 := eq_true q1
      clear hl9 hi9 hX g0 g1 g2 hg
      obtain ⟨b, hb9⟩ : ∃ b, blk dl x.f0.toNat = b := ⟨_, rfl⟩
      have HBB := Aside0.mk hb9
      have HBL := Aside0.mk (show b.length = 512 by rw [← hb9]; exact blk_len _)
      have HBQ := Aside0.mk (show spec_l13Block.f dl x.f0 = some b by rw [← hb9]; exact block_eq HF.out HG.out.1 HG.out.2.1)
      clear hb9
      by_cases hc : i < cs.length
      · have hc1 : decide ((i : Int) < (cs.length : Int)) = true := decide_eq_true (by omega)
        have hc2 : decide (i < cs.length) = true := decide_eq_true hc
        have s0 : (0 : Int) ≤ (i : Int) := by omega
        have s1 : (i : Int) < (cs.length : Int) := by omega
        obtain ⟨adc, ec, hxc⟩ := Kd.at_int HR2.out (i : Int) s0 s1
        cases ec
        obtain ⟨ch, hch⟩ : ∃ ch, rd cs (i : Int) = ch := ⟨_, rfl⟩
        rw [hch] at hxc
        simp only [Int.toNat_natCast] at hxc
        have HCH := Aside0.mk (show cs.getD i 0 = ch from hch)
        have hb9 := HCS.out i
        rw [HCH.out] at hb9
        obtain ⟨hb1, hb2⟩ := hb9
        replace s0 := eq_true s0
        replace s1 := eq_true s1
        clear hch hc
        by_cases hn : ch < 0
        · have hn1 : decide (ch < 0) = true := decide_eq_true hn
          obtain ⟨cc, hcc⟩ : ∃ cc, -(ch + 1) = cc := ⟨_, rfl⟩
          have hn3 : 0 ≤ cc := by omega
          have HCC := Aside0.mk hcc
          obtain ⟨m9, hm9⟩ : ∃ m : Int, cc % 9 = m := ⟨_, rfl⟩
          have hm0 : 0 ≤ m9 := by omega
          have hm1 : m9 < 9 := by omega
          obtain ⟨nn, hnn⟩ : ∃ nn : Nat, (nn : Int) = 64 * m9 := ⟨(64 * m9).toNat, by omega⟩
          have HNN := Aside0.mk (show cutN cs i = nn by unfold cutN absC; rw [HCH.out]; rw [if_pos hn, HCC.out]; omega)
          have HNL := Aside0.mk (show nn ≤ 512 by omega)
          have hmt : (cc).tmod 9 = m9 := by rw [Int.tmod_eq_emod_of_nonneg (by omega)]; exact hm9
          have hnn2 : 64 * m9 = (nn : Int) := hnn.symm
          have hw0 : IntKind.i64.wrap (64 * m9) = (nn : Int) := by rw [i64_w]; unfold wrap64; omega
          clear hnn hm0 hm1
          have HTK := Aside0.mk (show Kd.C (Kd.int .u8) w A9 nn (x.f1.take nn) by
            have h9 := Kd.C_take (m := nn) HX.out (by rw [HG.out.2.2]; exact HNL.out)
            rwa [show (x.f1.take nn).length = nn by rw [List.length_take, HG.out.2.2]; exact Nat.min_eq_left HNL.out] at h9)
          have HNB := Aside0.mk (show ((x.f1.take nn).take (min nn b.length) ++ b.drop (min nn b.length)).length = 512 by rw [copied x.f1 b nn HBL.out HNL.out, List.length_append, List.length_take, List.length_drop, HG.out.2.2, HBL.out]; have := HNL.out; omega)
          have HPQ := Aside0.mk (put_eq HF.out.1 HG.out.1 HG.out.2.1 _ HNB.out)
          have r0 : ((nn : Int) ≤ (c9 : Int)) := by have := HCX.out; have := HG.out.2.2; have := HNL.out; omega
          have r1 : (0 : Int) ≤ (nn : Int) := by omega
          replace r0 := eq_true r0
          replace r1 := eq_true r1
          go_wp2_with (first
            | ((with_reducible refine gate_dst (N := 8) rfl ?_); refine box_event ?hg (N := 8) ?hd (cs := #[.int .i64 0, .slice none 0 0]) (t := 66) ?hr ?_; (case hd => rfl); (case hg => rfl); (case hr => first | (go_simp; done) | (go_simp; rfl)); intro g8 hg w12 hbox hb; have HV2 := Aside0.mk (Kd.V_below (Kd.V_elderB (by (with_reducible repeat (first | apply Kd.V_alloc | apply Kd.V_drewN | apply Kd.V_drew)); exact HV.out) g8 (Nat.le_of_eq hg.symm)) hb); have GEg8 := Aside0.mk (show w.heap.size ≤ g8 by rw [hg]; exact (below_size (by repeat (first | (with_reducible first | exact HB.out | apply below_alloc | apply pw_below_drewN | apply below_drew1) | exact HB.out)))); have Ng3_g8 := Aside0.mk (show g3 ≠ g8 by rw [hg]; exact Nat.ne_of_lt (blk_lt (g := g3) (o := .cells #[.slice Ad dl.length cd] 40 (0, 0)) (by (with_reducible repeat (first | refine blk_drewN ?_ _ | refine blk_drew ?_ | refine blk_alloc ?_ _)); exact BKg3.out))); have Ng6_g8 := Aside0.mk (show g6 ≠ g8 by rw [hg]; exact Nat.ne_of_lt (blk_lt (g := g6) (o := .cells #[.slice none 0 0] 40 (0, 0)) (by (with_reducible repeat (first | refine blk_drewN ?_ _ | refine blk_drew ?_ | refine blk_alloc ?_ _)); exact BKg6.out))); have n0_ := Aside0.mk (below_step (by repeat (first | (with_reducible first | exact HB.out | apply below_alloc | apply pw_below_drewN | apply below_drew1) | exact HB.out)) hb); have n1_ := Aside0.mk (blk_below (g := g3) (o := .cells #[.slice Ad dl.length cd] 40 (0, 0)) (by (with_reducible repeat (first | refine blk_drewN ?_ _ | refine blk_drew ?_ | refine blk_alloc ?_ _)); exact BKg3.out) hb); have n2_ := Aside0.mk (blk_below (g := g6) (o := .cells #[.slice none 0 0] 40 (0, 0)) (by (with_reducible repeat (first | refine blk_drewN ?_ _ | refine blk_drew ?_ | refine blk_alloc ?_ _)); exact BKg6.out) hb); clear HB BKg3 BKg6; have HB := n0_; have BKg3 := n1_; have BKg6 := n2_; clear n0_ n1_ n2_; have BKg8 := Aside0.mk hbox; clear hb hbox hg; have hcg8_0_w12 : w12.cell? ⟨g8, 0, none⟩ = some (.int .i64 0) := (blk_cell BKg8.out 0).trans rfl; have hfg8_0_w12 := blk_frozen BKg8.out 0; have hcg8_1_w12 : w12.cell? ⟨g8, 1, none⟩ = some (.slice none 0 0) := (blk_cell BKg8.out 1).trans rfl; have hfg8_1_w12 := blk_frozen BKg8.out 1)
            | ((with_reducible refine gate_store (t := 66) (p := 8) rfl ?_); refine store_event (t := 66) (p := 8) (v := ?vo_w13) (w1 := ((w12.setCell ⟨g8, 0, none⟩ (.int .i64 x.f0)).setCell ⟨g8, 1, none⟩ (.slice A9 x.f1.length c9))) ?hg ?ho ?hn ?hr ?_; (case ho => rfl); (case hg => rfl); (case hn => rfl); (case hr => first | (go_simp; done) | (go_simp; rfl)); intro w13 hw; have HV3 : Aside0 (Kd.V (Kd.slice 5 (Kd.int .u8)) 62 w13 w.heap.size (fun k => (k ≠ g3 ∧ k ≠ g6) ∧ k ≠ g8) (.slice Ad dl.length cd) dl) := ⟨by rw [hw]; exact Kd.V_far (p := ⟨g8, 1, none⟩) (Kd.V_far (p := ⟨g8, 0, none⟩) HV2.out (fun k hk => hk.2) _) (fun k hk => hk.2) _⟩; have n0_ : Aside0 (Below w.heap.size w w13) := ⟨by rw [hw]; exact (below_set (below_set HB.out GEg8.out) GEg8.out)⟩; have n1_ : Aside0 (w13.heap[g8]? = some (.cells #[(.int .i64 x.f0), (.slice A9 x.f1.length c9)] 66 (0, 0))) := ⟨by rw [hw]; exact (blk_put (cs := #[(.int .i64 x.f0), .slice none 0 0]) (blk_put (cs := #[.int .i64 0, .slice none 0 0]) BKg8.out 0 (.int .i64 x.f0) rfl) 1 (.slice A9 x.f1.length c9) rfl)⟩; have n2_ : Aside0 (w13.heap[g3]? = some (.cells #[.slice Ad dl.length cd] 40 (0, 0))) := ⟨by rw [hw]; exact (blk_far (p := ⟨g8, 1, none⟩) (blk_far (p := ⟨g8, 0, none⟩) BKg3.out Ng3_g8.out (.int .i64 x.f0)) Ng3_g8.out (.slice A9 x.f1.length c9))⟩; have n3_ : Aside0 (w13.heap[g6]? = some (.cells #[.slice none 0 0] 40 (0, 0))) := ⟨by rw [hw]; exact (blk_far (p := ⟨g8, 1, none⟩) (blk_far (p := ⟨g8, 0, none⟩) BKg6.out Ng6_g8.out (.int .i64 x.f0)) Ng6_g8.out (.slice A9 x.f1.length c9))⟩; clear HB BKg8 BKg3 BKg6 hw; have HB := n0_; have BKg8 := n1_; have BKg3 := n2_; have BKg6 := n3_; clear n0_ n1_ n2_ n3_; have hcg8_0_w13 : w13.cell? ⟨g8, 0, none⟩ = some ((.int .i64 x.f0)) := (blk_cell BKg8.out 0).trans rfl; have hfg8_0_w13 := blk_frozen BKg8.out 0; have hcg8_1_w13 : w13.cell? ⟨g8, 1, none⟩ = some ((.slice A9 x.f1.length c9)) := (blk_cell BKg8.out 1).trans rfl; have hfg8_1_w13 := blk_frozen BKg8.out 1; have hcg3_0_w13 : w13.cell? ⟨g3, 0, none⟩ = some (.slice Ad dl.length cd) := (blk_cell BKg3.out 0).trans rfl; have hfg3_0_w13 := blk_frozen BKg3.out 0; have hxd := (HB.out.cell (World.block_lt_of_cell? w _ hxc)).trans hxc)
            | (go_at_call 55; (with_reducible refine (spec_l13Block.calls Ad cd dl x.f0 b _ (Kd.V_reads' (by (with_reducible repeat (first | apply Kd.V_alloc | apply Kd.V_drewN | apply Kd.V_drew)); exact HV3.out)).2.2 (Kd.V_reads' HV.out).2.1 HBQ.out).mono ?_); rintro e w14 ⟨vb, rfl, hs, hb⟩; obtain ⟨Ab, cb, eb⟩ := Kd.R_slice hs; rw [HBL.out] at eb; subst eb; have HV4 := Aside0.mk (Kd.V_elder' (by (with_reducible repeat (first | apply Kd.V_alloc | apply Kd.V_drewN | apply Kd.V_drew)); exact HV3.out) (Kd.R_base hs) hb); have HROW := Aside0.mk (Kd.R_lower hs (below_size (by repeat (first | (with_reducible first | exact HB.out | apply below_alloc | apply pw_below_drewN | apply below_drew1) | exact HB.out)))); clear hs; have n0_ := Aside0.mk (below_step (by repeat (first | (with_reducible first | exact HB.out | apply below_alloc | apply pw_below_drewN | apply below_drew1) | exact HB.out)) hb); have n1_ := Aside0.mk (blk_below (g := g3) (o := .cells #[.slice Ad dl.length cd] 40 (0, 0)) (by (with_reducible repeat (first | refine blk_drewN ?_ _ | refine blk_drew ?_ | refine blk_alloc ?_ _)); exact BKg3.out) hb); have n2_ := Aside0.mk (blk_below (g := g6) (o := .cells #[.slice none 0 0] 40 (0, 0)) (by (with_reducible repeat (first | refine blk_drewN ?_ _ | refine blk_drew ?_ | refine blk_alloc ?_ _)); exact BKg6.out) hb); have n3_ := Aside0.mk (blk_below (g := g8) (o := .cells #[(.int .i64 x.f0), (.slice A9 x.f1.length c9)] 66 (0, 0)) (by (with_reducible repeat (first | refine blk_drewN ?_ _ | refine blk_drew ?_ | refine blk_alloc ?_ _)); exact BKg8.out) hb); clear HB BKg3 BKg6 BKg8; have HB := n0_; have BKg3 := n1_; have BKg6 := n2_; have BKg8 := n3_; clear n0_ n1_ n2_ n3_; clear hb; have hcg3_0_w14 : w14.cell? ⟨g3, 0, none⟩ = some (.slice Ad dl.length cd) := (blk_cell BKg3.out 0).trans rfl; have hfg3_0_w14 := blk_frozen BKg3.out 0; have hcg8_0_w14 : w14.cell? ⟨g8, 0, none⟩ = some ((.int .i64 x.f0)) := (blk_cell BKg8.out 0).trans rfl; have hfg8_0_w14 := blk_frozen BKg8.out 0; have hcg8_1_w14 : w14.cell? ⟨g8, 1, none⟩ = some ((.slice A9 x.f1.length c9)) := (blk_cell BKg8.out 1).trans rfl; have hfg8_1_w14 := blk_frozen BKg8.out 1)
            | ((with_reducible refine gate_builtin (b := .copy) (xs := #[.tmp 39, .tmp 43]) rfl ?_); refine Kd.R_copy (enc := fun x => .int .u8 x) (h1 := fun _ => rfl) 0 (w0 := w) w.heap.size rfl (.tmp 39) (.tmp 43) 62 62 5 rfl Try.underlying62 rfl (.slice Ab 512 cb) b (x.f1.take nn) A9 nn c9 (fun _ => True) rfl rfl (by (with_reducible repeat (first | apply Kd.R_alloc | apply Kd.R_drewN | apply Kd.R_drew)); exact HROW.out) (Kd.C_below HTK.out (by repeat (first | (with_reducible first | exact HB.out | apply below_alloc | apply pw_below_drewN | apply below_drew1) | exact HB.out))) (by repeat (first | (with_reducible first | exact HB.out | apply below_alloc | apply pw_below_drewN | apply below_drew1) | exact HB.out)) (below_size (by repeat (first | (with_reducible first | exact HB.out | apply below_alloc | apply pw_below_drewN | apply below_drew1) | exact HB.out))) ?_; intro w15 hrow hb2 hg2; have HLB := Aside0.mk (show ((x.f1.take nn).take (min nn b.length) ++ b.drop (min nn b.length)).length ≤ cb by rw [HNB.out]; exact (Kd.R_reads' hrow).2.1); have HROW5 := Aside0.mk (show Kd.C (Kd.int .u8) w15 Ab _ _ from (Kd.R_reads' hrow).2.2); have HV5 := Aside0.mk (Kd.V_map (base' := w15.heap.size) (Kd.V_grown HV4.out hg2 (fun k hk => hk.2)) (fun _ hf => Kd.F_mono hf (fun k hk => hk.1.1))); have n3_ := Aside0.mk (blk_grown BKg3.out hg2 (Kd.R_ne HROW.out BKg3.out (by decide))); have n6_ := Aside0.mk (blk_grown BKg6.out hg2 (Kd.R_ne HROW.out BKg6.out (by decide))); have n8_ := Aside0.mk (blk_grown BKg8.out hg2 (Kd.R_ne HROW.out BKg8.out (by decide))); have nb_ := Aside0.mk hb2; clear HB BKg3 BKg6 BKg8 hrow hb2 hg2; have HB := nb_; have BKg3 := n3_; have BKg6 := n6_; have BKg8 := n8_; clear nb_ n3_ n6_ n8_; have hcg3_0_w15 : w15.cell? ⟨g3, 0, none⟩ = some (.slice Ad dl.length cd) := (blk_cell BKg3.out 0).trans rfl; have hfg3_0_w15 := blk_frozen BKg3.out 0; have hcg8_0_w15 : w15.cell? ⟨g8, 0, none⟩ = some ((.int .i64 x.f0)) := (blk_cell BKg8.out 0).trans rfl; have hfg8_0_w15 := blk_frozen BKg8.out 0; have hcg8_1_w15 : w15.cell? ⟨g8, 1, none⟩ = some ((.slice A9 x.f1.length c9)) := (blk_cell BKg8.out 1).trans rfl; have hfg8_1_w15 := blk_frozen BKg8.out 1)
            | (go_at_call 56; (with_reducible refine (put_n (fun k => k ≠ g3 ∧ k ≠ g6) Ad cd dl x.f0 Ab cb 512 _ _ _ HNB.out HV5.out HROW5.out HLB.out HPQ.out).mono ?_); rintro e w16 ⟨vn, rfl, hs, hb⟩; obtain ⟨An, cn, en⟩ := Kd.N_slice hs; subst en; have HV6 := Aside0.mk (Kd.V_mono (Kd.N_V (base' := w.heap.size) hs) (fun k hk => hk.elim (fun h => h) (fun h => ⟨by have := blk_lt BKg3.out; omega, by have := blk_lt BKg6.out; omega⟩))); clear hs; have n0_ := Aside0.mk (below_step (by repeat (first | (with_reducible first | exact HB.out | apply below_alloc | apply pw_below_drewN | apply below_drew1) | exact HB.out)) hb); have n1_ := Aside0.mk (blk_below (g := g3) (o := .cells #[.slice Ad dl.length cd] 40 (0, 0)) (by (with_reducible repeat (first | refine blk_drewN ?_ _ | refine blk_drew ?_ | refine blk_alloc ?_ _)); exact BKg3.out) hb); have n2_ := Aside0.mk (blk_below (g := g6) (o := .cells #[.slice none 0 0] 40 (0, 0)) (by (with_reducible repeat (first | refine blk_drewN ?_ _ | refine blk_drew ?_ | refine blk_alloc ?_ _)); exact BKg6.out) hb); have n3_ := Aside0.mk (blk_below (g := g8) (o := .cells #[(.int .i64 x.f0), (.slice A9 x.f1.length c9)] 66 (0, 0)) (by (with_reducible repeat (first | refine blk_drewN ?_ _ | refine blk_drew ?_ | refine blk_alloc ?_ _)); exact BKg8.out) hb); clear HB BKg3 BKg6 BKg8; have HB := n0_; have BKg3 := n1_; have BKg6 := n2_; have BKg8 := n3_; clear n0_ n1_ n2_ n3_; clear hb; have hcg3_0_w16 : w16.cell? ⟨g3, 0, none⟩ = some (.slice Ad dl.length cd) := (blk_cell BKg3.out 0).trans rfl; have hfg3_0_w16 := blk_frozen BKg3.out 0))
          go_roundw
          case rel => exact ⟨n, i + 1, _, An, cn, congrArg (Value.int .i64) HW.out, ⟨by have := HI.out; omega⟩, ⟨valid_put HF.out (b := x.f0.toNat) (by have := HG.out; omega) HNB.out⟩, ⟨by rw [← HCR.out, crashS_step cs ws i HIN.out dl, HXX.out, HNN.out, HBB.out, copied x.f1 b nn HBL.out HNL.out]⟩, ⟨Kd.V_far (p := ⟨g3, 0, none⟩) HV6.out (fun k hk => hk.1) _⟩, ⟨blk_put (cs := #[.slice Ad dl.length cd]) BKg3.out 0 _ rfl⟩, ⟨blk_far (p := ⟨g3, 0, none⟩) BKg6.out Ng3_g6.out.symm _⟩, ⟨below_set HB.out GEg3.out⟩⟩
          case measure => rw [HW.out]; have := HIN.out; have := HLEN.out; show 1048576 - ((i + 1 : Nat) : Int).toNat < 1048576 - ((i : Nat) : Int).toNat; omega
        · have hn1 : decide (ch < 0) = false := decide_eq_false hn
          have hn2 : 0 ≤ ch := by omega
          clear hn
          obtain ⟨m9, hm9⟩ : ∃ m : Int, ch % 9 = m := ⟨_, rfl⟩
          have hm0 : 0 ≤ m9 := by omega
          have hm1 : m9 < 9 := by omega
          obtain ⟨nn, hnn⟩ : ∃ nn : Nat, (nn : Int) = 64 * m9 := ⟨(64 * m9).toNat, by omega⟩
          have HNN := Aside0.mk (show cutN cs i = nn by unfold cutN absC; rw [HCH.out]; rw [if_neg (by omega)]; omega)
          have HNL := Aside0.mk (show nn ≤ 512 by omega)
          have hmt : (ch).tmod 9 = m9 := by rw [Int.tmod_eq_emod_of_nonneg (by omega)]; exact hm9
          have hnn2 : 64 * m9 = (nn : Int) := hnn.symm
          have hw0 : IntKind.i64.wrap (64 * m9) = (nn : Int) := by rw [i64_w]; unfold wrap64; omega
          clear hnn hm0 hm1
          have HTK := Aside0.mk (show Kd.C (Kd.int .u8) w A9 nn (x.f1.take nn) by
            have h9 := Kd.C_take (m := nn) HX.out (by rw [HG.out.2.2]; exact HNL.out)
            rwa [show (x.f1.take nn).length = nn by rw [List.length_take, HG.out.2.2]; exact Nat.min_eq_left HNL.out] at h9)
          have HNB := Aside0.mk (show ((x.f1.take nn).take (min nn b.length) ++ b.drop (min nn b.length)).length = 512 by rw [copied x.f1 b nn HBL.out HNL.out, List.length_append, List.length_take, List.length_drop, HG.out.2.2, HBL.out]; have := HNL.out; omega)
          have HPQ := Aside0.mk (put_eq HF.out.1 HG.out.1 HG.out.2.1 _ HNB.out)
          have r0 : ((nn : Int) ≤ (c9 : Int)) := by have := HCX.out; have := HG.out.2.2; have := HNL.out; omega
          have r1 : (0 : Int) ≤ (nn : Int) := by omega
          replace r0 := eq_true r0
          replace r1 := eq_true r1
          go_wp2_with (first
            | ((with_reducible refine gate_dst (N := 8) rfl ?_); refine box_event ?hg (N := 8) ?hd (cs := #[.int .i64 0, .slice none 0 0]) (t := 66) ?hr ?_; (case hd => rfl); (case hg => rfl); (case hr => first | (go_simp; done) | (go_simp; rfl)); intro g8 hg w12 hbox hb; have HV2 := Aside0.mk (Kd.V_below (Kd.V_elderB (by (with_reducible repeat (first | apply Kd.V_alloc | apply Kd.V_drewN | apply Kd.V_drew)); exact HV.out) g8 (Nat.le_of_eq hg.symm)) hb); have GEg8 := Aside0.mk (show w.heap.size ≤ g8 by rw [hg]; exact (below_size (by repeat (first | (with_reducible first | exact HB.out | apply below_alloc | apply pw_below_drewN | apply below_drew1) | exact HB.out)))); have Ng3_g8 := Aside0.mk (show g3 ≠ g8 by rw [hg]; exact Nat.ne_of_lt (blk_lt (g := g3) (o := .cells #[.slice Ad dl.length cd] 40 (0, 0)) (by (with_reducible repeat (first | refine blk_drewN ?_ _ | refine blk_drew ?_ | refine blk_alloc ?_ _)); exact BKg3.out))); have Ng6_g8 := Aside0.mk (show g6 ≠ g8 by rw [hg]; exact Nat.ne_of_lt (blk_lt (g := g6) (o := .cells #[.slice none 0 0] 40 (0, 0)) (by (with_reducible repeat (first | refine blk_drewN ?_ _ | refine blk_drew ?_ | refine blk_alloc ?_ _)); exact BKg6.out))); have n0_ := Aside0.mk (below_step (by repeat (first | (with_reducible first | exact HB.out | apply below_alloc | apply pw_below_drewN | apply below_drew1) | exact HB.out)) hb); have n1_ := Aside0.mk (blk_below (g := g3) (o := .cells #[.slice Ad dl.length cd] 40 (0, 0)) (by (with_reducible repeat (first | refine blk_drewN ?_ _ | refine blk_drew ?_ | refine blk_alloc ?_ _)); exact BKg3.out) hb); have n2_ := Aside0.mk (blk_below (g := g6) (o := .cells #[.slice none 0 0] 40 (0, 0)) (by (with_reducible repeat (first | refine blk_drewN ?_ _ | refine blk_drew ?_ | refine blk_alloc ?_ _)); exact BKg6.out) hb); clear HB BKg3 BKg6; have HB := n0_; have BKg3 := n1_; have BKg6 := n2_; clear n0_ n1_ n2_; have BKg8 := Aside0.mk hbox; clear hb hbox hg; have hcg8_0_w12 : w12.cell? ⟨g8, 0, none⟩ = some (.int .i64 0) := (blk_cell BKg8.out 0).trans rfl; have hfg8_0_w12 := blk_frozen BKg8.out 0; have hcg8_1_w12 : w12.cell? ⟨g8, 1, none⟩ = some (.slice none 0 0) := (blk_cell BKg8.out 1).trans rfl; have hfg8_1_w12 := blk_frozen BKg8.out 1)
            | ((with_reducible refine gate_store (t := 66) (p := 8) rfl ?_); refine store_event (t := 66) (p := 8) (v := ?vo_w13) (w1 := ((w12.setCell ⟨g8, 0, none⟩ (.int .i64 x.f0)).setCell ⟨g8, 1, none⟩ (.slice A9 x.f1.length c9))) ?hg ?ho ?hn ?hr ?_; (case ho => rfl); (case hg => rfl); (case hn => rfl); (case hr => first | (go_simp; done) | (go_simp; rfl)); intro w13 hw; have HV3 : Aside0 (Kd.V (Kd.slice 5 (Kd.int .u8)) 62 w13 w.heap.size (fun k => (k ≠ g3 ∧ k ≠ g6) ∧ k ≠ g8) (.slice Ad dl.length cd) dl) := ⟨by rw [hw]; exact Kd.V_far (p := ⟨g8, 1, none⟩) (Kd.V_far (p := ⟨g8, 0, none⟩) HV2.out (fun k hk => hk.2) _) (fun k hk => hk.2) _⟩; have n0_ : Aside0 (Below w.heap.size w w13) := ⟨by rw [hw]; exact (below_set (below_set HB.out GEg8.out) GEg8.out)⟩; have n1_ : Aside0 (w13.heap[g8]? = some (.cells #[(.int .i64 x.f0), (.slice A9 x.f1.length c9)] 66 (0, 0))) := ⟨by rw [hw]; exact (blk_put (cs := #[(.int .i64 x.f0), .slice none 0 0]) (blk_put (cs := #[.int .i64 0, .slice none 0 0]) BKg8.out 0 (.int .i64 x.f0) rfl) 1 (.slice A9 x.f1.length c9) rfl)⟩; have n2_ : Aside0 (w13.heap[g3]? = some (.cells #[.slice Ad dl.length cd] 40 (0, 0))) := ⟨by rw [hw]; exact (blk_far (p := ⟨g8, 1, none⟩) (blk_far (p := ⟨g8, 0, none⟩) BKg3.out Ng3_g8.out (.int .i64 x.f0)) Ng3_g8.out (.slice A9 x.f1.length c9))⟩; have n3_ : Aside0 (w13.heap[g6]? = some (.cells #[.slice none 0 0] 40 (0, 0))) := ⟨by rw [hw]; exact (blk_far (p := ⟨g8, 1, none⟩) (blk_far (p := ⟨g8, 0, none⟩) BKg6.out Ng6_g8.out (.int .i64 x.f0)) Ng6_g8.out (.slice A9 x.f1.length c9))⟩; clear HB BKg8 BKg3 BKg6 hw; have HB := n0_; have BKg8 := n1_; have BKg3 := n2_; have BKg6 := n3_; clear n0_ n1_ n2_ n3_; have hcg8_0_w13 : w13.cell? ⟨g8, 0, none⟩ = some ((.int .i64 x.f0)) := (blk_cell BKg8.out 0).trans rfl; have hfg8_0_w13 := blk_frozen BKg8.out 0; have hcg8_1_w13 : w13.cell? ⟨g8, 1, none⟩ = some ((.slice A9 x.f1.length c9)) := (blk_cell BKg8.out 1).trans rfl; have hfg8_1_w13 := blk_frozen BKg8.out 1; have hcg3_0_w13 : w13.cell? ⟨g3, 0, none⟩ = some (.slice Ad dl.length cd) := (blk_cell BKg3.out 0).trans rfl; have hfg3_0_w13 := blk_frozen BKg3.out 0; have hxd := (HB.out.cell (World.block_lt_of_cell? w _ hxc)).trans hxc)
            | (go_at_call 55; (with_reducible refine (spec_l13Block.calls Ad cd dl x.f0 b _ (Kd.V_reads' (by (with_reducible repeat (first | apply Kd.V_alloc | apply Kd.V_drewN | apply Kd.V_drew)); exact HV3.out)).2.2 (Kd.V_reads' HV.out).2.1 HBQ.out).mono ?_); rintro e w14 ⟨vb, rfl, hs, hb⟩; obtain ⟨Ab, cb, eb⟩ := Kd.R_slice hs; rw [HBL.out] at eb; subst eb; have HV4 := Aside0.mk (Kd.V_elder' (by (with_reducible repeat (first | apply Kd.V_alloc | apply Kd.V_drewN | apply Kd.V_drew)); exact HV3.out) (Kd.R_base hs) hb); have HROW := Aside0.mk (Kd.R_lower hs (below_size (by repeat (first | (with_reducible first | exact HB.out | apply below_alloc | apply pw_below_drewN | apply below_drew1) | exact HB.out)))); clear hs; have n0_ := Aside0.mk (below_step (by repeat (first | (with_reducible first | exact HB.out | apply below_alloc | apply pw_below_drewN | apply below_drew1) | exact HB.out)) hb); have n1_ := Aside0.mk (blk_below (g := g3) (o := .cells #[.slice Ad dl.length cd] 40 (0, 0)) (by (with_reducible repeat (first | refine blk_drewN ?_ _ | refine blk_drew ?_ | refine blk_alloc ?_ _)); exact BKg3.out) hb); have n2_ := Aside0.mk (blk_below (g := g6) (o := .cells #[.slice none 0 0] 40 (0, 0)) (by (with_reducible repeat (first | refine blk_drewN ?_ _ | refine blk_drew ?_ | refine blk_alloc ?_ _)); exact BKg6.out) hb); have n3_ := Aside0.mk (blk_below (g := g8) (o := .cells #[(.int .i64 x.f0), (.slice A9 x.f1.length c9)] 66 (0, 0)) (by (with_reducible repeat (first | refine blk_drewN ?_ _ | refine blk_drew ?_ | refine blk_alloc ?_ _)); exact BKg8.out) hb); clear HB BKg3 BKg6 BKg8; have HB := n0_; have BKg3 := n1_; have BKg6 := n2_; have BKg8 := n3_; clear n0_ n1_ n2_ n3_; clear hb; have hcg3_0_w14 : w14.cell? ⟨g3, 0, none⟩ = some (.slice Ad dl.length cd) := (blk_cell BKg3.out 0).trans rfl; have hfg3_0_w14 := blk_frozen BKg3.out 0; have hcg8_0_w14 : w14.cell? ⟨g8, 0, none⟩ = some ((.int .i64 x.f0)) := (blk_cell BKg8.out 0).trans rfl; have hfg8_0_w14 := blk_frozen BKg8.out 0; have hcg8_1_w14 : w14.cell? ⟨g8, 1, none⟩ = some ((.slice A9 x.f1.length c9)) := (blk_cell BKg8.out 1).trans rfl; have hfg8_1_w14 := blk_frozen BKg8.out 1)
            | ((with_reducible refine gate_builtin (b := .copy) (xs := #[.tmp 39, .tmp 43]) rfl ?_); refine Kd.R_copy (enc := fun x => .int .u8 x) (h1 := fun _ => rfl) 0 (w0 := w) w.heap.size rfl (.tmp 39) (.tmp 43) 62 62 5 rfl Try.underlying62 rfl (.slice Ab 512 cb) b (x.f1.take nn) A9 nn c9 (fun _ => True) rfl rfl (by (with_reducible repeat (first | apply Kd.R_alloc | apply Kd.R_drewN | apply Kd.R_drew)); exact HROW.out) (Kd.C_below HTK.out (by repeat (first | (with_reducible first | exact HB.out | apply below_alloc | apply pw_below_drewN | apply below_drew1) | exact HB.out))) (by repeat (first | (with_reducible first | exact HB.out | apply below_alloc | apply pw_below_drewN | apply below_drew1) | exact HB.out)) (below_size (by repeat (first | (with_reducible first | exact HB.out | apply below_alloc | apply pw_below_drewN | apply below_drew1) | exact HB.out))) ?_; intro w15 hrow hb2 hg2; have HLB := Aside0.mk (show ((x.f1.take nn).take (min nn b.length) ++ b.drop (min nn b.length)).length ≤ cb by rw [HNB.out]; exact (Kd.R_reads' hrow).2.1); have HROW5 := Aside0.mk (show Kd.C (Kd.int .u8) w15 Ab _ _ from (Kd.R_reads' hrow).2.2); have HV5 := Aside0.mk (Kd.V_map (base' := w15.heap.size) (Kd.V_grown HV4.out hg2 (fun k hk => hk.2)) (fun _ hf => Kd.F_mono hf (fun k hk => hk.1.1))); have n3_ := Aside0.mk (blk_grown BKg3.out hg2 (Kd.R_ne HROW.out BKg3.out (by decide))); have n6_ := Aside0.mk (blk_grown BKg6.out hg2 (Kd.R_ne HROW.out BKg6.out (by decide))); have n8_ := Aside0.mk (blk_grown BKg8.out hg2 (Kd.R_ne HROW.out BKg8.out (by decide))); have nb_ := Aside0.mk hb2; clear HB BKg3 BKg6 BKg8 hrow hb2 hg2; have HB := nb_; have BKg3 := n3_; have BKg6 := n6_; have BKg8 := n8_; clear nb_ n3_ n6_ n8_; have hcg3_0_w15 : w15.cell? ⟨g3, 0, none⟩ = some (.slice Ad dl.length cd) := (blk_cell BKg3.out 0).trans rfl; have hfg3_0_w15 := blk_frozen BKg3.out 0; have hcg8_0_w15 : w15.cell? ⟨g8, 0, none⟩ = some ((.int .i64 x.f0)) := (blk_cell BKg8.out 0).trans rfl; have hfg8_0_w15 := blk_frozen BKg8.out 0; have hcg8_1_w15 : w15.cell? ⟨g8, 1, none⟩ = some ((.slice A9 x.f1.length c9)) := (blk_cell BKg8.out 1).trans rfl; have hfg8_1_w15 := blk_frozen BKg8.out 1)
            | (go_at_call 56; (with_reducible refine (put_n (fun k => k ≠ g3 ∧ k ≠ g6) Ad cd dl x.f0 Ab cb 512 _ _ _ HNB.out HV5.out HROW5.out HLB.out HPQ.out).mono ?_); rintro e w16 ⟨vn, rfl, hs, hb⟩; obtain ⟨An, cn, en⟩ := Kd.N_slice hs; subst en; have HV6 := Aside0.mk (Kd.V_mono (Kd.N_V (base' := w.heap.size) hs) (fun k hk => hk.elim (fun h => h) (fun h => ⟨by have := blk_lt BKg3.out; omega, by have := blk_lt BKg6.out; omega⟩))); clear hs; have n0_ := Aside0.mk (below_step (by repeat (first | (with_reducible first | exact HB.out | apply below_alloc | apply pw_below_drewN | apply below_drew1) | exact HB.out)) hb); have n1_ := Aside0.mk (blk_below (g := g3) (o := .cells #[.slice Ad dl.length cd] 40 (0, 0)) (by (with_reducible repeat (first | refine blk_drewN ?_ _ | refine blk_drew ?_ | refine blk_alloc ?_ _)); exact BKg3.out) hb); have n2_ := Aside0.mk (blk_below (g := g6) (o := .cells #[.slice none 0 0] 40 (0, 0)) (by (with_reducible repeat (first | refine blk_drewN ?_ _ | refine blk_drew ?_ | refine blk_alloc ?_ _)); exact BKg6.out) hb); have n3_ := Aside0.mk (blk_below (g := g8) (o := .cells #[(.int .i64 x.f0), (.slice A9 x.f1.length c9)] 66 (0, 0)) (by (with_reducible repeat (first | refine blk_drewN ?_ _ | refine blk_drew ?_ | refine blk_alloc ?_ _)); exact BKg8.out) hb); clear HB BKg3 BKg6 BKg8; have HB := n0_; have BKg3 := n1_; have BKg6 := n2_; have BKg8 := n3_; clear n0_ n1_ n2_ n3_; clear hb; have hcg3_0_w16 : w16.cell? ⟨g3, 0, none⟩ = some (.slice Ad dl.length cd) := (blk_cell BKg3.out 0).trans rfl; have hfg3_0_w16 := blk_frozen BKg3.out 0))
          go_roundw
          case rel => exact ⟨n, i + 1, _, An, cn, congrArg (Value.int .i64) HW.out, ⟨by have := HI.out; omega⟩, ⟨valid_put HF.out (b := x.f0.toNat) (by have := HG.out; omega) HNB.out⟩, ⟨by rw [← HCR.out, crashS_step cs ws i HIN.out dl, HXX.out, HNN.out, HBB.out, copied x.f1 b nn HBL.out HNL.out]⟩, ⟨Kd.V_far (p := ⟨g3, 0, none⟩) HV6.out (fun k hk => hk.1) _⟩, ⟨blk_put (cs := #[.slice Ad dl.length cd]) BKg3.out 0 _ rfl⟩, ⟨blk_far (p := ⟨g3, 0, none⟩) BKg6.out Ng3_g6.out.symm _⟩, ⟨below_set HB.out GEg3.out⟩⟩
          case measure => rw [HW.out]; have := HIN.out; have := HLEN.out; show 1048576 - ((i + 1 : Nat) : Int).toNat < 1048576 - ((i : Nat) : Int).toNat; omega
      · have hc1 : decide ((i : Int) < (cs.length : Int)) = false := decide_eq_false (by omega)
        have hc2 : decide (i < cs.length) = false := decide_eq_false hc
        clear hc
        have HNN := Aside0.mk (show cutN cs i = 0 by unfold cutN; rw [show cs.getD i 0 = 0 by simp [List.getD, List.getElem?_eq_none (show cs.length ≤ i by have := of_decide_eq_false hc2; omega)]]; rfl)
        have HNL := Aside0.mk (show 0 ≤ 512 by omega)
        have hw0 : IntKind.i64.wrap 0 = 0 := rfl
        have HTK := Aside0.mk (show Kd.C (Kd.int .u8) w A9 0 (x.f1.take 0) by
          have h9 := Kd.C_take (m := 0) HX.out (by rw [HG.out.2.2]; exact HNL.out)
          rwa [show (x.f1.take 0).length = 0 by rw [List.length_take, HG.out.2.2]; exact Nat.min_eq_left HNL.out] at h9)
        have HNB := Aside0.mk (show ((x.f1.take 0).take (min 0 b.length) ++ b.drop (min 0 b.length)).length = 512 by rw [copied x.f1 b 0 HBL.out HNL.out, List.length_append, List.length_take, List.length_drop, HG.out.2.2, HBL.out]; have := HNL.out; omega)
        have HPQ := Aside0.mk (put_eq HF.out.1 HG.out.1 HG.out.2.1 _ HNB.out)
        have r0 : (0 ≤ (c9 : Int)) := by have := HCX.out; have := HG.out.2.2; have := HNL.out; omega
        have r1 : (0 : Int) ≤ 0 := by omega
        replace r0 := eq_true r0
        replace r1 := eq_true r1
        go_wp2_with (first
          | ((with_reducible refine gate_dst (N := 8) rfl ?_); refine box_event ?hg (N := 8) ?hd (cs := #[.int .i64 0, .slice none 0 0]) (t := 66) ?hr ?_; (case hd => rfl); (case hg => rfl); (case hr => first | (go_simp; done) | (go_simp; rfl)); intro g8 hg w12 hbox hb; have HV2 := Aside0.mk (Kd.V_below (Kd.V_elderB (by (with_reducible repeat (first | apply Kd.V_alloc | apply Kd.V_drewN | apply Kd.V_drew)); exact HV.out) g8 (Nat.le_of_eq hg.symm)) hb); have GEg8 := Aside0.mk (show w.heap.size ≤ g8 by rw [hg]; exact (below_size (by repeat (first | (with_reducible first | exact HB.out | apply below_alloc | apply pw_below_drewN | apply below_drew1) | exact HB.out)))); have Ng3_g8 := Aside0.mk (show g3 ≠ g8 by rw [hg]; exact Nat.ne_of_lt (blk_lt (g := g3) (o := .cells #[.slice Ad dl.length cd] 40 (0, 0)) (by (with_reducible repeat (first | refine blk_drewN ?_ _ | refine blk_drew ?_ | refine blk_alloc ?_ _)); exact BKg3.out))); have Ng6_g8 := Aside0.mk (show g6 ≠ g8 by rw [hg]; exact Nat.ne_of_lt (blk_lt (g := g6) (o := .cells #[.slice none 0 0] 40 (0, 0)) (by (with_reducible repeat (first | refine blk_drewN ?_ _ | refine blk_drew ?_ | refine blk_alloc ?_ _)); exact BKg6.out))); have n0_ := Aside0.mk (below_step (by repeat (first | (with_reducible first | exact HB.out | apply below_alloc | apply pw_below_drewN | apply below_drew1) | exact HB.out)) hb); have n1_ := Aside0.mk (blk_below (g := g3) (o := .cells #[.slice Ad dl.length cd] 40 (0, 0)) (by (with_reducible repeat (first | refine blk_drewN ?_ _ | refine blk_drew ?_ | refine blk_alloc ?_ _)); exact BKg3.out) hb); have n2_ := Aside0.mk (blk_below (g := g6) (o := .cells #[.slice none 0 0] 40 (0, 0)) (by (with_reducible repeat (first | refine blk_drewN ?_ _ | refine blk_drew ?_ | refine blk_alloc ?_ _)); exact BKg6.out) hb); clear HB BKg3 BKg6; have HB := n0_; have BKg3 := n1_; have BKg6 := n2_; clear n0_ n1_ n2_; have BKg8 := Aside0.mk hbox; clear hb hbox hg; have hcg8_0_w12 : w12.cell? ⟨g8, 0, none⟩ = some (.int .i64 0) := (blk_cell BKg8.out 0).trans rfl; have hfg8_0_w12 := blk_frozen BKg8.out 0; have hcg8_1_w12 : w12.cell? ⟨g8, 1, none⟩ = some (.slice none 0 0) := (blk_cell BKg8.out 1).trans rfl; have hfg8_1_w12 := blk_frozen BKg8.out 1)
          | ((with_reducible refine gate_store (t := 66) (p := 8) rfl ?_); refine store_event (t := 66) (p := 8) (v := ?vo_w13) (w1 := ((w12.setCell ⟨g8, 0, none⟩ (.int .i64 x.f0)).setCell ⟨g8, 1, none⟩ (.slice A9 x.f1.length c9))) ?hg ?ho ?hn ?hr ?_; (case ho => rfl); (case hg => rfl); (case hn => rfl); (case hr => first | (go_simp; done) | (go_simp; rfl)); intro w13 hw; have HV3 : Aside0 (Kd.V (Kd.slice 5 (Kd.int .u8)) 62 w13 w.heap.size (fun k => (k ≠ g3 ∧ k ≠ g6) ∧ k ≠ g8) (.slice Ad dl.length cd) dl) := ⟨by rw [hw]; exact Kd.V_far (p := ⟨g8, 1, none⟩) (Kd.V_far (p := ⟨g8, 0, none⟩) HV2.out (fun k hk => hk.2) _) (fun k hk => hk.2) _⟩; have n0_ : Aside0 (Below w.heap.size w w13) := ⟨by rw [hw]; exact (below_set (below_set HB.out GEg8.out) GEg8.out)⟩; have n1_ : Aside0 (w13.heap[g8]? = some (.cells #[(.int .i64 x.f0), (.slice A9 x.f1.length c9)] 66 (0, 0))) := ⟨by rw [hw]; exact (blk_put (cs := #[(.int .i64 x.f0), .slice none 0 0]) (blk_put (cs := #[.int .i64 0, .slice none 0 0]) BKg8.out 0 (.int .i64 x.f0) rfl) 1 (.slice A9 x.f1.length c9) rfl)⟩; have n2_ : Aside0 (w13.heap[g3]? = some (.cells #[.slice Ad dl.length cd] 40 (0, 0))) := ⟨by rw [hw]; exact (blk_far (p := ⟨g8, 1, none⟩) (blk_far (p := ⟨g8, 0, none⟩) BKg3.out Ng3_g8.out (.int .i64 x.f0)) Ng3_g8.out (.slice A9 x.f1.length c9))⟩; have n3_ : Aside0 (w13.heap[g6]? = some (.cells #[.slice none 0 0] 40 (0, 0))) := ⟨by rw [hw]; exact (blk_far (p := ⟨g8, 1, none⟩) (blk_far (p := ⟨g8, 0, none⟩) BKg6.out Ng6_g8.out (.int .i64 x.f0)) Ng6_g8.out (.slice A9 x.f1.length c9))⟩; clear HB BKg8 BKg3 BKg6 hw; have HB := n0_; have BKg8 := n1_; have BKg3 := n2_; have BKg6 := n3_; clear n0_ n1_ n2_ n3_; have hcg8_0_w13 : w13.cell? ⟨g8, 0, none⟩ = some ((.int .i64 x.f0)) := (blk_cell BKg8.out 0).trans rfl; have hfg8_0_w13 := blk_frozen BKg8.out 0; have hcg8_1_w13 : w13.cell? ⟨g8, 1, none⟩ = some ((.slice A9 x.f1.length c9)) := (blk_cell BKg8.out 1).trans rfl; have hfg8_1_w13 := blk_frozen BKg8.out 1; have hcg3_0_w13 : w13.cell? ⟨g3, 0, none⟩ = some (.slice Ad dl.length cd) := (blk_cell BKg3.out 0).trans rfl; have hfg3_0_w13 := blk_frozen BKg3.out 0)
          | (go_at_call 55; (with_reducible refine (spec_l13Block.calls Ad cd dl x.f0 b _ (Kd.V_reads' (by (with_reducible repeat (first | apply Kd.V_alloc | apply Kd.V_drewN | apply Kd.V_drew)); exact HV3.out)).2.2 (Kd.V_reads' HV.out).2.1 HBQ.out).mono ?_); rintro e w14 ⟨vb, rfl, hs, hb⟩; obtain ⟨Ab, cb, eb⟩ := Kd.R_slice hs; rw [HBL.out] at eb; subst eb; have HV4 := Aside0.mk (Kd.V_elder' (by (with_reducible repeat (first | apply Kd.V_alloc | apply Kd.V_drewN | apply Kd.V_drew)); exact HV3.out) (Kd.R_base hs) hb); have HROW := Aside0.mk (Kd.R_lower hs (below_size (by repeat (first | (with_reducible first | exact HB.out | apply below_alloc | apply pw_below_drewN | apply below_drew1) | exact HB.out)))); clear hs; have n0_ := Aside0.mk (below_step (by repeat (first | (with_reducible first | exact HB.out | apply below_alloc | apply pw_below_drewN | apply below_drew1) | exact HB.out)) hb); have n1_ := Aside0.mk (blk_below (g := g3) (o := .cells #[.slice Ad dl.length cd] 40 (0, 0)) (by (with_reducible repeat (first | refine blk_drewN ?_ _ | refine blk_drew ?_ | refine blk_alloc ?_ _)); exact BKg3.out) hb); have n2_ := Aside0.mk (blk_below (g := g6) (o := .cells #[.slice none 0 0] 40 (0, 0)) (by (with_reducible repeat (first | refine blk_drewN ?_ _ | refine blk_drew ?_ | refine blk_alloc ?_ _)); exact BKg6.out) hb); have n3_ := Aside0.mk (blk_below (g := g8) (o := .cells #[(.int .i64 x.f0), (.slice A9 x.f1.length c9)] 66 (0, 0)) (by (with_reducible repeat (first | refine blk_drewN ?_ _ | refine blk_drew ?_ | refine blk_alloc ?_ _)); exact BKg8.out) hb); clear HB BKg3 BKg6 BKg8; have HB := n0_; have BKg3 := n1_; have BKg6 := n2_; have BKg8 := n3_; clear n0_ n1_ n2_ n3_; clear hb; have hcg3_0_w14 : w14.cell? ⟨g3, 0, none⟩ = some (.slice Ad dl.length cd) := (blk_cell BKg3.out 0).trans rfl; have hfg3_0_w14 := blk_frozen BKg3.out 0; have hcg8_0_w14 : w14.cell? ⟨g8, 0, none⟩ = some ((.int .i64 x.f0)) := (blk_cell BKg8.out 0).trans rfl; have hfg8_0_w14 := blk_frozen BKg8.out 0; have hcg8_1_w14 : w14.cell? ⟨g8, 1, none⟩ = some ((.slice A9 x.f1.length c9)) := (blk_cell BKg8.out 1).trans rfl; have hfg8_1_w14 := blk_frozen BKg8.out 1)
          | ((with_reducible refine gate_builtin (b := .copy) (xs := #[.tmp 39, .tmp 43]) rfl ?_); refine Kd.R_copy (enc := fun x => .int .u8 x) (h1 := fun _ => rfl) 0 (w0 := w) w.heap.size rfl (.tmp 39) (.tmp 43) 62 62 5 rfl Try.underlying62 rfl (.slice Ab 512 cb) b (x.f1.take 0) A9 0 c9 (fun _ => True) rfl rfl (by (with_reducible repeat (first | apply Kd.R_alloc | apply Kd.R_drewN | apply Kd.R_drew)); exact HROW.out) (Kd.C_below HTK.out (by repeat (first | (with_reducible first | exact HB.out | apply below_alloc | apply pw_below_drewN | apply below_drew1) | exact HB.out))) (by repeat (first | (with_reducible first | exact HB.out | apply below_alloc | apply pw_below_drewN | apply below_drew1) | exact HB.out)) (below_size (by repeat (first | (with_reducible first | exact HB.out | apply below_alloc | apply pw_below_drewN | apply below_drew1) | exact HB.out))) ?_; intro w15 hrow hb2 hg2; have HLB := Aside0.mk (show ((x.f1.take 0).take (min 0 b.length) ++ b.drop (min 0 b.length)).length ≤ cb by rw [HNB.out]; exact (Kd.R_reads' hrow).2.1); have HROW5 := Aside0.mk (show Kd.C (Kd.int .u8) w15 Ab _ _ from (Kd.R_reads' hrow).2.2); have HV5 := Aside0.mk (Kd.V_map (base' := w15.heap.size) (Kd.V_grown HV4.out hg2 (fun k hk => hk.2)) (fun _ hf => Kd.F_mono hf (fun k hk => hk.1.1))); have n3_ := Aside0.mk (blk_grown BKg3.out hg2 (Kd.R_ne HROW.out BKg3.out (by decide))); have n6_ := Aside0.mk (blk_grown BKg6.out hg2 (Kd.R_ne HROW.out BKg6.out (by decide))); have n8_ := Aside0.mk (blk_grown BKg8.out hg2 (Kd.R_ne HROW.out BKg8.out (by decide))); have nb_ := Aside0.mk hb2; clear HB BKg3 BKg6 BKg8 hrow hb2 hg2; have HB := nb_; have BKg3 := n3_; have BKg6 := n6_; have BKg8 := n8_; clear nb_ n3_ n6_ n8_; have hcg3_0_w15 : w15.cell? ⟨g3, 0, none⟩ = some (.slice Ad dl.length cd) := (blk_cell BKg3.out 0).trans rfl; have hfg3_0_w15 := blk_frozen BKg3.out 0; have hcg8_0_w15 : w15.cell? ⟨g8, 0, none⟩ = some ((.int .i64 x.f0)) := (blk_cell BKg8.out 0).trans rfl; have hfg8_0_w15 := blk_frozen BKg8.out 0; have hcg8_1_w15 : w15.cell? ⟨g8, 1, none⟩ = some ((.slice A9 x.f1.length c9)) := (blk_cell BKg8.out 1).trans rfl; have hfg8_1_w15 := blk_frozen BKg8.out 1)
          | (go_at_call 56; (with_reducible refine (put_n (fun k => k ≠ g3 ∧ k ≠ g6) Ad cd dl x.f0 Ab cb 512 _ _ _ HNB.out HV5.out HROW5.out HLB.out HPQ.out).mono ?_); rintro e w16 ⟨vn, rfl, hs, hb⟩; obtain ⟨An, cn, en⟩ := Kd.N_slice hs; subst en; have HV6 := Aside0.mk (Kd.V_mono (Kd.N_V (base' := w.heap.size) hs) (fun k hk => hk.elim (fun h => h) (fun h => ⟨by have := blk_lt BKg3.out; omega, by have := blk_lt BKg6.out; omega⟩))); clear hs; have n0_ := Aside0.mk (below_step (by repeat (first | (with_reducible first | exact HB.out | apply below_alloc | apply pw_below_drewN | apply below_drew1) | exact HB.out)) hb); have n1_ := Aside0.mk (blk_below (g := g3) (o := .cells #[.slice Ad dl.length cd] 40 (0, 0)) (by (with_reducible repeat (first | refine blk_drewN ?_ _ | refine blk_drew ?_ | refine blk_alloc ?_ _)); exact BKg3.out) hb); have n2_ := Aside0.mk (blk_below (g := g6) (o := .cells #[.slice none 0 0] 40 (0, 0)) (by (with_reducible repeat (first | refine blk_drewN ?_ _ | refine blk_drew ?_ | refine blk_alloc ?_ _)); exact BKg6.out) hb); have n3_ := Aside0.mk (blk_below (g := g8) (o := .cells #[(.int .i64 x.f0), (.slice A9 x.f1.length c9)] 66 (0, 0)) (by (with_reducible repeat (first | refine blk_drewN ?_ _ | refine blk_drew ?_ | refine blk_alloc ?_ _)); exact BKg8.out) hb); clear HB BKg3 BKg6 BKg8; have HB := n0_; have BKg3 := n1_; have BKg6 := n2_; have BKg8 := n3_; clear n0_ n1_ n2_ n3_; clear hb; have hcg3_0_w16 : w16.cell? ⟨g3, 0, none⟩ = some (.slice Ad dl.length cd) := (blk_cell BKg3.out 0).trans rfl; have hfg3_0_w16 := blk_frozen BKg3.out 0))
        go_roundw
        case rel => exact ⟨n, i + 1, _, An, cn, congrArg (Value.int .i64) HW.out, ⟨by have := HI.out; omega⟩, ⟨valid_put HF.out (b := x.f0.toNat) (by have := HG.out; omega) HNB.out⟩, ⟨by rw [← HCR.out, crashS_step cs ws i HIN.out dl, HXX.out, HNN.out, HBB.out, copied x.f1 b 0 HBL.out HNL.out]⟩, ⟨Kd.V_far (p := ⟨g3, 0, none⟩) HV6.out (fun k hk => hk.1) _⟩, ⟨blk_put (cs := #[.slice Ad dl.length cd]) BKg3.out 0 _ rfl⟩, ⟨blk_far (p := ⟨g3, 0, none⟩) BKg6.out Ng3_g6.out.symm _⟩, ⟨below_set HB.out GEg3.out⟩⟩
        case measure => rw [HW.out]; have := HIN.out; have := HLEN.out; show 1048576 - ((i + 1 : Nat) : Int).toNat < 1048576 - ((i : Nat) : Int).toNat; omega
end Go.Proofs.Ytaicfmmgmblmiaa.QFnExactDiskCrash
