/- Proved: what impl.DiskCrash answers. Conditions: the arguments are read as lists; the disk's blocks are short. -/
import Derived.Test.YtaicfmmgmblmiaaDcC
import Derived.Test.YtaicfmmgmblmiaaQFnExactDiskCrashx3
namespace Go.Proofs.Ytaicfmmgmblmiaa.QFnExactDiskCrash
open Go.RowKit Go.Proofs.YtaicfmmgmblmiaaW.PrintWords Go.Proofs.YtaicfmmgmblmiaaW.PrintLast Go.Proofs.YtaicfmmgmblmiaaW.PrintMore
set_option linter.unusedVariables false
set_option linter.unusedSimpArgs false

/-- A write that DiskCrash takes. -/
def goodW (x : S66) : Bool := decide (0 ≤ x.f0) && decide (x.f0 < 512) && decide (x.f1.length = 512)
theorem goodW_of {x : S66} (h : goodW x = true) : 0 ≤ x.f0 ∧ x.f0 < 512 ∧ x.f1.length = 512 := by
  simp only [goodW, Bool.and_eq_true, decide_eq_true_eq] at h
  exact ⟨h.1.1, h.1.2, h.2⟩
/-- How much of a write is done, by the choice. -/
def absC (c : Int) : Int := if c < 0 then -(c + 1) else c
def cutN (cs : List Int) (i : Nat) : Nat := (64 * (absC (cs.getD i 0) % 9)).toNat
theorem cutN_le (cs : List Int) (i : Nat) : cutN cs i ≤ 512 := by unfold cutN; omega
def putW (l : List (List Int)) (x : S66) (n : Nat) : List (List Int) := l.set x.f0.toNat (x.f1.take n ++ (l.getD x.f0.toNat []).drop n)
def crash (cs : List Int) : List S66 → Nat → List (List Int) → List (List Int)
  | [], _, l => l
  | x :: ws, i, l => crash cs ws (i + 1) (putW l x (cutN cs i))
def Fits (l : List (List Int)) : Prop := l.length = 512 ∧ ∀ j, j < 512 → (l.getD j []).length = 512
theorem fits_put {l : List (List Int)} (h : Fits l) {x : S66} (hx : x.f1.length = 512) {n : Nat} (hn : n ≤ 512) : Fits (putW l x n) := by
  refine ⟨by unfold putW; rw [List.length_set]; exact h.1, fun j hj => ?_⟩
  unfold putW
  by_cases e : x.f0.toNat = j
  · rw [e, show (l.set j (x.f1.take n ++ (l.getD j []).drop n)).getD j [] = x.f1.take n ++ (l.getD j []).drop n by simp [List.getD, h.1, hj], List.length_append, List.length_take, List.length_drop, hx, h.2 j hj]
    omega
  · rw [show (l.set x.f0.toNat (x.f1.take n ++ (l.getD x.f0.toNat []).drop n)).getD j [] = l.getD j [] by simp [List.getD, e]]
    exact h.2 j hj
theorem fits_blk (l : List (List Int)) : Fits ((List.range 512).map (blk l)) := by
  refine ⟨by simp, fun j hj => ?_⟩
  rw [show ((List.range 512).map (blk l)).getD j [] = blk l j by simp [List.getD, hj], blk, List.length_append, List.length_take, List.length_replicate]
  omega
theorem crash_step (cs : List Int) (ws : List S66) (i : Nat) (hi : i < ws.length) (l : List (List Int)) : crash cs (ws.drop i) i l = crash cs (ws.drop (i + 1)) (i + 1) (putW l (rd_T66 ws (i : Int)) (cutN cs i)) := by
  rw [List.drop_eq_getElem_cons hi, show rd_T66 ws (i : Int) = ws[i] by simp [rd_T66, List.getD, hi]]
  rfl
theorem crash_end (cs : List Int) (ws : List S66) (i : Nat) (hi : ws.length ≤ i) (l : List (List Int)) : crash cs (ws.drop i) i l = l := by
  rw [List.drop_of_length_le hi]
  rfl
theorem zDisk_n (A : Option Addr) (c n : Nat) (l : List (List Int)) (w : World) (hn : l.length = n) (hr0 : Kd.C (Kd.slice 5 (Kd.int .u8)) w A l.length l) (hc0 : l.length ≤ c) (hl : l.length ≤ 512) (hb0 : ∀ i, (l.getD i []).length ≤ 512) :
    Calls Try.prog 42 #[.slice A n c] w fun e w' => ∃ v : Value, e = .returned (.agg #[v]) ∧ Kd.S (Kd.slice 5 (Kd.int .u8)) 62 w' w.heap.size (fun _ => True) v (l.take (trim l l.length)) ∧ Below w.heap.size w w' := by
  subst hn
  exact zDisk_calls A c l w hr0 hc0 hl hb0
theorem copied (x : List Int) (z : List Int) (n : Nat) (hz : z.length = 512) (hn : n ≤ 512) : (x.take n).take (min n z.length) ++ z.drop (min n z.length) = x.take n ++ z.drop n := by
  rw [hz, Nat.min_eq_left hn, List.take_take, Nat.min_self]
theorem fits_le {l : List (List Int)} (h : Fits l) (i : Nat) : (l.getD i []).length ≤ 512 := by
  by_cases hi : i < 512
  · rw [h.2 i hi]; exact Nat.le_refl _
  · rw [show l.getD i [] = [] by simp [List.getD, List.getElem?_eq_none (show l.length ≤ i by have := h.1; omega)]]; exact Nat.zero_le _

set_option maxHeartbeats 8000000 in
set_option maxRecDepth 100000 in
theorem DiskCrash_disk (k : Nat) (A0 : Option Addr) (c0 : Nat) (l0 : List (List Int)) (A1 : Option Addr) (c1 : Nat) (ws : List S66) (A2 : Option Addr) (c2 : Nat) (cs : List Int) (w : World) (hr0 : Kd.C (Kd.slice 5 (Kd.int .u8)) w A0 l0.length l0) (hc0 : l0.length ≤ c0) (hr1 : Kd.C k66 w A1 ws.length ws) (hc1 : ws.length ≤ c1) (hr2 : Kd.C (Kd.int .i64) w A2 cs.length cs) (hc2 : cs.length ≤ c2) (hok : impl_zDiskOK.f k l0 = some false) :
    Calls Try.prog 20 #[.agg #[.slice A0 l0.length c0], .slice A1 ws.length c1, .slice A2 cs.length c2] w fun e w' => e = .returned (.tuple #[.agg #[.slice none 0 0], .int .i64 1]) ∧ Below w.heap.size w w' := by
  have hu40 := Try.underlying40
  have hu66 := Try.underlying66
  have HR0 := Aside0.mk hr0
  have HC0 := Aside0.mk hc0
  have HR1 := Aside0.mk hr1
  have HC1 := Aside0.mk hc1
  have HR2 := Aside0.mk hr2
  have HC2 := Aside0.mk hc2
  have HOK := Aside0.mk hok
  clear hr0 hc0 hr1 hc1 hr2 hc2 hok
  have HB := Aside0.mk (Below.refl w.heap.size w)
  go_enter Try.func20, Try.ntmps20
  go_wp2_with (first
    | ((with_reducible refine gate_dst (N := 3) rfl ?_); refine box_event ?hg (N := 3) ?hd (cs := #[.slice A0 l0.length c0]) (t := 40) ?hr ?_; (case hd => rfl); (case hg => rfl); (case hr => first | (go_simp; done) | (go_simp; rfl)); intro g3 hg w3 hbox hb; have GEg3 := Aside0.mk (show w.heap.size ≤ g3 by rw [hg]; exact (below_size (by repeat (first | (with_reducible first | exact HB.out | apply below_alloc | apply pw_below_drewN | apply below_drew1) | exact HB.out)))); have n0_ := Aside0.mk (below_step (by repeat (first | (with_reducible first | exact HB.out | apply below_alloc | apply pw_below_drewN | apply below_drew1) | exact HB.out)) hb); clear HB; have HB := n0_; clear n0_; have BKg3 := Aside0.mk hbox; clear hb hbox hg; have hcg3_0_w3 : w3.cell? ⟨g3, 0, none⟩ = some (.slice A0 l0.length c0) := (blk_cell BKg3.out 0).trans rfl; have hfg3_0_w3 := blk_frozen BKg3.out 0)
    | ((with_reducible refine gate_dst (N := 6) rfl ?_); refine box_event ?hg (N := 6) ?hd (cs := #[.slice none 0 0]) (t := 40) ?hr ?_; (case hd => rfl); (case hg => rfl); (case hr => first | (go_simp; done) | (go_simp; rfl)); intro g6 hg w6 hbox hb; have GEg6 := Aside0.mk (show w.heap.size ≤ g6 by rw [hg]; exact (below_size (by repeat (first | (with_reducible first | exact HB.out | apply below_alloc | apply pw_below_drewN | apply below_drew1) | exact HB.out)))); have Ng3_g6 := Aside0.mk (show g3 ≠ g6 by rw [hg]; exact Nat.ne_of_lt (blk_lt (g := g3) (o := .cells #[.slice A0 l0.length c0] 40 (0, 0)) (by (with_reducible repeat (first | refine blk_drewN ?_ _ | refine blk_drew ?_ | refine blk_alloc ?_ _)); exact BKg3.out))); have n0_ := Aside0.mk (below_step (by repeat (first | (with_reducible first | exact HB.out | apply below_alloc | apply pw_below_drewN | apply below_drew1) | exact HB.out)) hb); have n1_ := Aside0.mk (blk_below (g := g3) (o := .cells #[.slice A0 l0.length c0] 40 (0, 0)) (by (with_reducible repeat (first | refine blk_drewN ?_ _ | refine blk_drew ?_ | refine blk_alloc ?_ _)); exact BKg3.out) hb); clear HB BKg3; have HB := n0_; have BKg3 := n1_; clear n0_ n1_; have BKg6 := Aside0.mk hbox; clear hb hbox hg; have hcg6_0_w6 : w6.cell? ⟨g6, 0, none⟩ = some (.slice none 0 0) := (blk_cell BKg6.out 0).trans rfl; have hfg6_0_w6 := blk_frozen BKg6.out 0; have hcg3_0_w6 : w6.cell? ⟨g3, 0, none⟩ = some (.slice A0 l0.length c0) := (blk_cell BKg3.out 0).trans rfl; have hfg3_0_w6 := blk_frozen BKg3.out 0)
    | (go_at_call 40; (with_reducible refine (impl_zDiskOK.calls k A0 c0 l0 false _ (Kd.C_below HR0.out (by repeat (first | (with_reducible first | exact HB.out | apply below_alloc | apply pw_below_drewN | apply below_drew1) | exact HB.out))) HC0.out HOK.out).mono ?_); rintro e w8 ⟨rfl, hb⟩; have n0_ := Aside0.mk (below_step (by repeat (first | (with_reducible first | exact HB.out | apply below_alloc | apply pw_below_drewN | apply below_drew1) | exact HB.out)) hb); have n1_ := Aside0.mk (blk_below (g := g3) (o := .cells #[.slice A0 l0.length c0] 40 (0, 0)) (by (with_reducible repeat (first | refine blk_drewN ?_ _ | refine blk_drew ?_ | refine blk_alloc ?_ _)); exact BKg3.out) hb); have n2_ := Aside0.mk (blk_below (g := g6) (o := .cells #[.slice none 0 0] 40 (0, 0)) (by (with_reducible repeat (first | refine blk_drewN ?_ _ | refine blk_drew ?_ | refine blk_alloc ?_ _)); exact BKg6.out) hb); clear HB BKg3 BKg6; have HB := n0_; have BKg3 := n1_; have BKg6 := n2_; clear n0_ n1_ n2_; clear hb; have hcg3_0_w8 : w8.cell? ⟨g3, 0, none⟩ = some (.slice A0 l0.length c0) := (blk_cell BKg3.out 0).trans rfl; have hfg3_0_w8 := blk_frozen BKg3.out 0; have hcg6_0_w8 : w8.cell? ⟨g6, 0, none⟩ = some (.slice none 0 0) := (blk_cell BKg6.out 0).trans rfl; have hfg6_0_w8 := blk_frozen BKg6.out 0))
  refine bodyPost_ret (results_ct rfl _ _ g6 40 #[.slice none 0 0] (0, 0) _ rfl (by (with_reducible repeat (first | refine blk_drewN ?_ _ | refine blk_drew ?_ | refine blk_alloc ?_ _)); refine blk_put (cs := #[.slice none 0 0]) ?_ 0 _ rfl; (with_reducible repeat (first | refine blk_drewN ?_ _ | refine blk_drew ?_ | refine blk_alloc ?_ _)); exact BKg6.out) Try.underlying40 rfl (by kernel_rfl)) rfl ?_
  exact ⟨rfl, below_set HB.out GEg6.out⟩
set_option maxHeartbeats 8000000 in
set_option maxRecDepth 100000 in
theorem DiskCrash_many (k : Nat) (A0 : Option Addr) (c0 : Nat) (l0 : List (List Int)) (A1 : Option Addr) (c1 : Nat) (ws : List S66) (A2 : Option Addr) (c2 : Nat) (cs : List Int) (w : World) (hr0 : Kd.C (Kd.slice 5 (Kd.int .u8)) w A0 l0.length l0) (hc0 : l0.length ≤ c0) (hr1 : Kd.C k66 w A1 ws.length ws) (hc1 : ws.length ≤ c1) (hr2 : Kd.C (Kd.int .i64) w A2 cs.length cs) (hc2 : cs.length ≤ c2) (hok : impl_zDiskOK.f k l0 = some true) (hlen : 512 < ws.length) :
    Calls Try.prog 20 #[.agg #[.slice A0 l0.length c0], .slice A1 ws.length c1, .slice A2 cs.length c2] w fun e w' => e = .returned (.tuple #[.agg #[.slice none 0 0], .int .i64 1]) ∧ Below w.heap.size w w' := by
  have hgt : decide ((512 : Int) < (ws.length : Int)) = true := decide_eq_true (by omega)
  have hgt2 : decide (512 < ws.length) = true := decide_eq_true hlen
  clear hlen
  have hu40 := Try.underlying40
  have hu66 := Try.underlying66
  have HR0 := Aside0.mk hr0
  have HC0 := Aside0.mk hc0
  have HR1 := Aside0.mk hr1
  have HC1 := Aside0.mk hc1
  have HR2 := Aside0.mk hr2
  have HC2 := Aside0.mk hc2
  have HOK := Aside0.mk hok
  clear hr0 hc0 hr1 hc1 hr2 hc2 hok
  have HB := Aside0.mk (Below.refl w.heap.size w)
  go_enter Try.func20, Try.ntmps20
  go_wp2_with (first
    | ((with_reducible refine gate_dst (N := 3) rfl ?_); refine box_event ?hg (N := 3) ?hd (cs := #[.slice A0 l0.length c0]) (t := 40) ?hr ?_; (case hd => rfl); (case hg => rfl); (case hr => first | (go_simp; done) | (go_simp; rfl)); intro g3 hg w3 hbox hb; have GEg3 := Aside0.mk (show w.heap.size ≤ g3 by rw [hg]; exact (below_size (by repeat (first | (with_reducible first | exact HB.out | apply below_alloc | apply pw_below_drewN | apply below_drew1) | exact HB.out)))); have n0_ := Aside0.mk (below_step (by repeat (first | (with_reducible first | exact HB.out | apply below_alloc | apply pw_below_drewN | apply below_drew1) | exact HB.out)) hb); clear HB; have HB := n0_; clear n0_; have BKg3 := Aside0.mk hbox; clear hb hbox hg; have hcg3_0_w3 : w3.cell? ⟨g3, 0, none⟩ = some (.slice A0 l0.length c0) := (blk_cell BKg3.out 0).trans rfl; have hfg3_0_w3 := blk_frozen BKg3.out 0)
    | ((with_reducible refine gate_dst (N := 6) rfl ?_); refine box_event ?hg (N := 6) ?hd (cs := #[.slice none 0 0]) (t := 40) ?hr ?_; (case hd => rfl); (case hg => rfl); (case hr => first | (go_simp; done) | (go_simp; rfl)); intro g6 hg w6 hbox hb; have GEg6 := Aside0.mk (show w.heap.size ≤ g6 by rw [hg]; exact (below_size (by repeat (first | (with_reducible first | exact HB.out | apply below_alloc | apply pw_below_drewN | apply below_drew1) | exact HB.out)))); have Ng3_g6 := Aside0.mk (show g3 ≠ g6 by rw [hg]; exact Nat.ne_of_lt (blk_lt (g := g3) (o := .cells #[.slice A0 l0.length c0] 40 (0, 0)) (by (with_reducible repeat (first | refine blk_drewN ?_ _ | refine blk_drew ?_ | refine blk_alloc ?_ _)); exact BKg3.out))); have n0_ := Aside0.mk (below_step (by repeat (first | (with_reducible first | exact HB.out | apply below_alloc | apply pw_below_drewN | apply below_drew1) | exact HB.out)) hb); have n1_ := Aside0.mk (blk_below (g := g3) (o := .cells #[.slice A0 l0.length c0] 40 (0, 0)) (by (with_reducible repeat (first | refine blk_drewN ?_ _ | refine blk_drew ?_ | refine blk_alloc ?_ _)); exact BKg3.out) hb); clear HB BKg3; have HB := n0_; have BKg3 := n1_; clear n0_ n1_; have BKg6 := Aside0.mk hbox; clear hb hbox hg; have hcg6_0_w6 : w6.cell? ⟨g6, 0, none⟩ = some (.slice none 0 0) := (blk_cell BKg6.out 0).trans rfl; have hfg6_0_w6 := blk_frozen BKg6.out 0; have hcg3_0_w6 : w6.cell? ⟨g3, 0, none⟩ = some (.slice A0 l0.length c0) := (blk_cell BKg3.out 0).trans rfl; have hfg3_0_w6 := blk_frozen BKg3.out 0)
    | (go_at_call 40; (with_reducible refine (impl_zDiskOK.calls k A0 c0 l0 true _ (Kd.C_below HR0.out (by repeat (first | (with_reducible first | exact HB.out | apply below_alloc | apply pw_below_drewN | apply below_drew1) | exact HB.out))) HC0.out HOK.out).mono ?_); rintro e w8 ⟨rfl, hb⟩; have n0_ := Aside0.mk (below_step (by repeat (first | (with_reducible first | exact HB.out | apply below_alloc | apply pw_below_drewN | apply below_drew1) | exact HB.out)) hb); have n1_ := Aside0.mk (blk_below (g := g3) (o := .cells #[.slice A0 l0.length c0] 40 (0, 0)) (by (with_reducible repeat (first | refine blk_drewN ?_ _ | refine blk_drew ?_ | refine blk_alloc ?_ _)); exact BKg3.out) hb); have n2_ := Aside0.mk (blk_below (g := g6) (o := .cells #[.slice none 0 0] 40 (0, 0)) (by (with_reducible repeat (first | refine blk_drewN ?_ _ | refine blk_drew ?_ | refine blk_alloc ?_ _)); exact BKg6.out) hb); clear HB BKg3 BKg6; have HB := n0_; have BKg3 := n1_; have BKg6 := n2_; clear n0_ n1_ n2_; clear hb; have hcg3_0_w8 : w8.cell? ⟨g3, 0, none⟩ = some (.slice A0 l0.length c0) := (blk_cell BKg3.out 0).trans rfl; have hfg3_0_w8 := blk_frozen BKg3.out 0; have hcg6_0_w8 : w8.cell? ⟨g6, 0, none⟩ = some (.slice none 0 0) := (blk_cell BKg6.out 0).trans rfl; have hfg6_0_w8 := blk_frozen BKg6.out 0))
  refine bodyPost_ret (results_ct rfl _ _ g6 40 #[.slice none 0 0] (0, 0) _ rfl (by (with_reducible repeat (first | refine blk_drewN ?_ _ | refine blk_drew ?_ | refine blk_alloc ?_ _)); refine blk_put (cs := #[.slice none 0 0]) ?_ 0 _ rfl; (with_reducible repeat (first | refine blk_drewN ?_ _ | refine blk_drew ?_ | refine blk_alloc ?_ _)); exact BKg6.out) Try.underlying40 rfl (by kernel_rfl)) rfl ?_
  exact ⟨rfl, below_set HB.out GEg6.out⟩
set_option maxHeartbeats 8000000 in
set_option maxRecDepth 100000 in
theorem DiskCrash_write (k : Nat) (A0 : Option Addr) (c0 : Nat) (l0 : List (List Int)) (A1 : Option Addr) (c1 : Nat) (ws : List S66) (A2 : Option Addr) (c2 : Nat) (cs : List Int) (w : World) (hr0 : Kd.C (Kd.slice 5 (Kd.int .u8)) w A0 l0.length l0) (hc0 : l0.length ≤ c0) (hr1 : Kd.C k66 w A1 ws.length ws) (hc1 : ws.length ≤ c1) (hr2 : Kd.C (Kd.int .i64) w A2 cs.length cs) (hc2 : cs.length ≤ c2) (hok : impl_zDiskOK.f k l0 = some true) (hlen : ws.length ≤ 512) (j : Nat) (hj : j < ws.length) (hgood : ∀ i, i < j → goodW (rd_T66 ws (i : Int)) = true) (hbad : goodW (rd_T66 ws (j : Int)) = false) :
    Calls Try.prog 20 #[.agg #[.slice A0 l0.length c0], .slice A1 ws.length c1, .slice A2 cs.length c2] w fun e w' => e = .returned (.tuple #[.agg #[.slice none 0 0], .int .i64 1]) ∧ Below w.heap.size w w' := by
  have hgt : decide ((512 : Int) < (ws.length : Int)) = false := decide_eq_false (by omega)
  have hgt2 : decide (512 < ws.length) = false := decide_eq_false (by omega)
  have HJ := Aside0.mk hj
  have HLEN := Aside0.mk hlen
  have HGOOD := Aside0.mk hgood
  have HBAD := Aside0.mk hbad
  clear hlen hj hgood hbad
  have hu40 := Try.underlying40
  have hu66 := Try.underlying66
  have HR0 := Aside0.mk hr0
  have HC0 := Aside0.mk hc0
  have HR1 := Aside0.mk hr1
  have HC1 := Aside0.mk hc1
  have HR2 := Aside0.mk hr2
  have HC2 := Aside0.mk hc2
  have HOK := Aside0.mk hok
  clear hr0 hc0 hr1 hc1 hr2 hc2 hok
  have HB := Aside0.mk (Below.refl w.heap.size w)
  go_enter Try.func20, Try.ntmps20
  go_wp2_with (first
    | ((with_reducible refine gate_dst (N := 3) rfl ?_); refine box_event ?hg (N := 3) ?hd (cs := #[.slice A0 l0.length c0]) (t := 40) ?hr ?_; (case hd => rfl); (case hg => rfl); (case hr => first | (go_simp; done) | (go_simp; rfl)); intro g3 hg w3 hbox hb; have GEg3 := Aside0.mk (show w.heap.size ≤ g3 by rw [hg]; exact (below_size (by repeat (first | (with_reducible first | exact HB.out | apply below_alloc | apply pw_below_drewN | apply below_drew1) | exact HB.out)))); have n0_ := Aside0.mk (below_step (by repeat (first | (with_reducible first | exact HB.out | apply below_alloc | apply pw_below_drewN | apply below_drew1) | exact HB.out)) hb); clear HB; have HB := n0_; clear n0_; have BKg3 := Aside0.mk hbox; clear hb hbox hg; have hcg3_0_w3 : w3.cell? ⟨g3, 0, none⟩ = some (.slice A0 l0.length c0) := (blk_cell BKg3.out 0).trans rfl; have hfg3_0_w3 := blk_frozen BKg3.out 0)
    | ((with_reducible refine gate_dst (N := 6) rfl ?_); refine box_event ?hg (N := 6) ?hd (cs := #[.slice none 0 0]) (t := 40) ?hr ?_; (case hd => rfl); (case hg => rfl); (case hr => first | (go_simp; done) | (go_simp; rfl)); intro g6 hg w6 hbox hb; have GEg6 := Aside0.mk (show w.heap.size ≤ g6 by rw [hg]; exact (below_size (by repeat (first | (with_reducible first | exact HB.out | apply below_alloc | apply pw_below_drewN | apply below_drew1) | exact HB.out)))); have Ng3_g6 := Aside0.mk (show g3 ≠ g6 by rw [hg]; exact Nat.ne_of_lt (blk_lt (g := g3) (o := .cells #[.slice A0 l0.length c0] 40 (0, 0)) (by (with_reducible repeat (first | refine blk_drewN ?_ _ | refine blk_drew ?_ | refine blk_alloc ?_ _)); exact BKg3.out))); have n0_ := Aside0.mk (below_step (by repeat (first | (with_reducible first | exact HB.out | apply below_alloc | apply pw_below_drewN | apply below_drew1) | exact HB.out)) hb); have n1_ := Aside0.mk (blk_below (g := g3) (o := .cells #[.slice A0 l0.length c0] 40 (0, 0)) (by (with_reducible repeat (first | refine blk_drewN ?_ _ | refine blk_drew ?_ | refine blk_alloc ?_ _)); exact BKg3.out) hb); clear HB BKg3; have HB := n0_; have BKg3 := n1_; clear n0_ n1_; have BKg6 := Aside0.mk hbox; clear hb hbox hg; have hcg6_0_w6 : w6.cell? ⟨g6, 0, none⟩ = some (.slice none 0 0) := (blk_cell BKg6.out 0).trans rfl; have hfg6_0_w6 := blk_frozen BKg6.out 0; have hcg3_0_w6 : w6.cell? ⟨g3, 0, none⟩ = some (.slice A0 l0.length c0) := (blk_cell BKg3.out 0).trans rfl; have hfg3_0_w6 := blk_frozen BKg3.out 0)
    | (go_at_call 40; (with_reducible refine (impl_zDiskOK.calls k A0 c0 l0 true _ (Kd.C_below HR0.out (by repeat (first | (with_reducible first | exact HB.out | apply below_alloc | apply pw_below_drewN | apply below_drew1) | exact HB.out))) HC0.out HOK.out).mono ?_); rintro e w8 ⟨rfl, hb⟩; have n0_ := Aside0.mk (below_step (by repeat (first | (with_reducible first | exact HB.out | apply below_alloc | apply pw_below_drewN | apply below_drew1) | exact HB.out)) hb); have n1_ := Aside0.mk (blk_below (g := g3) (o := .cells #[.slice A0 l0.length c0] 40 (0, 0)) (by (with_reducible repeat (first | refine blk_drewN ?_ _ | refine blk_drew ?_ | refine blk_alloc ?_ _)); exact BKg3.out) hb); have n2_ := Aside0.mk (blk_below (g := g6) (o := .cells #[.slice none 0 0] 40 (0, 0)) (by (with_reducible repeat (first | refine blk_drewN ?_ _ | refine blk_drew ?_ | refine blk_alloc ?_ _)); exact BKg6.out) hb); clear HB BKg3 BKg6; have HB := n0_; have BKg3 := n1_; have BKg6 := n2_; clear n0_ n1_ n2_; clear hb; have hcg3_0_w8 : w8.cell? ⟨g3, 0, none⟩ = some (.slice A0 l0.length c0) := (blk_cell BKg3.out 0).trans rfl; have hfg3_0_w8 := blk_frozen BKg3.out 0; have hcg6_0_w8 : w8.cell? ⟨g6, 0, none⟩ = some (.slice none 0 0) := (blk_cell BKg6.out 0).trans rfl; have hfg6_0_w8 := blk_frozen BKg6.out 0))
  go_loopw [25] (fun v25 w' => ∃ (n i : Nat), v25 = .int .i64 (i : Int) ∧ Aside0 (i + n = j) ∧ Aside0 (w'.heap[g3]? = some (.cells #[.slice A0 l0.length c0] 40 (0, 0))) ∧ Aside0 (w'.heap[g6]? = some (.cells #[.slice none 0 0] 40 (0, 0))) ∧ Aside0 (Below w.heap.size w w')) (fun v25 _ => 1048576 - (intOf v25).toNat)
  case atStart => exact ⟨j, 0, rfl, ⟨by omega⟩, BKg3, BKg6, HB⟩
  case round =>
    obtain ⟨n, i, rfl, HI, BKg3, BKg6, HB⟩ := hrel
    have HIN := Aside0.mk (show i < ws.length by have := HI.out; have := HJ.out; omega)
    have hlt : decide ((i : Int) < (ws.length : Int)) = true := decide_eq_true (by have := HIN.out; omega)
    have hlt2 : decide (i < ws.length) = true := decide_eq_true HIN.out
    have HW := Aside0.mk (show wrap64 ((i : Int) + 1) = ((i + 1 : Nat) : Int) by have := HIN.out; have := HLEN.out; unfold wrap64; omega)
    have q0 : (0 : Int) ≤ (i : Int) := by omega
    have q1 : (i : Int) < (ws.length : Int) := by have := HIN.out; omega
    obtain ⟨ad, A9, c9, e9, hx0, hx1, hl9, hi9⟩ := at_T66 HR1.out (i : Int) q0 q1
    subst e9
    replace hx0 := (HB.out.cell (World.block_lt_of_cell? w _ hx0)).trans hx0
    replace hx1 := (HB.out.cell (World.block_lt_of_cell? w _ hx1)).trans hx1
    simp only [Int.toNat_natCast] at hx0 hx1
    have HX := Aside0.mk hi9
    have HCX := Aside0.mk hl9
    obtain ⟨x, hX⟩ : ∃ x, rd_T66 ws (i : Int) = x := ⟨_, rfl⟩
    rw [hX] at hx0 hx1 HX HCX
    have HXX := Aside0.mk hX
    replace q0 := eq_true q0
    replace q1 := eq_true q1
    clear hl9 hi9 hX
    cases n with
    | zero =>
      have hb := HBAD.out
      rw [show j = i by have := HI.out; omega, HXX.out] at hb
      by_cases b0 : x.f0 < 0
      · have d0 : decide (x.f0 < 0) = true := decide_eq_true b0
        clear b0 hb
        go_wp2_with (first
          | ((with_reducible refine gate_dst (N := 9) rfl ?_); refine box_event ?hg (N := 9) ?hd (cs := #[.int .i64 0, .slice none 0 0]) (t := 66) ?hr ?_; (case hd => rfl); (case hg => rfl); (case hr => first | (go_simp; done) | (go_simp; rfl)); intro g9 hg w9 hbox hb; have GEg9 := Aside0.mk (show w.heap.size ≤ g9 by rw [hg]; exact (below_size (by repeat (first | (with_reducible first | exact HB.out | apply below_alloc | apply pw_below_drewN | apply below_drew1) | exact HB.out)))); have Ng3_g9 := Aside0.mk (show g3 ≠ g9 by rw [hg]; exact Nat.ne_of_lt (blk_lt (g := g3) (o := .cells #[.slice A0 l0.length c0] 40 (0, 0)) (by (with_reducible repeat (first | refine blk_drewN ?_ _ | refine blk_drew ?_ | refine blk_alloc ?_ _)); exact BKg3.out))); have Ng6_g9 := Aside0.mk (show g6 ≠ g9 by rw [hg]; exact Nat.ne_of_lt (blk_lt (g := g6) (o := .cells #[.slice none 0 0] 40 (0, 0)) (by (with_reducible repeat (first | refine blk_drewN ?_ _ | refine blk_drew ?_ | refine blk_alloc ?_ _)); exact BKg6.out))); have n0_ := Aside0.mk (below_step (by repeat (first | (with_reducible first | exact HB.out | apply below_alloc | apply pw_below_drewN | apply below_drew1) | exact HB.out)) hb); have n1_ := Aside0.mk (blk_below (g := g3) (o := .cells #[.slice A0 l0.length c0] 40 (0, 0)) (by (with_reducible repeat (first | refine blk_drewN ?_ _ | refine blk_drew ?_ | refine blk_alloc ?_ _)); exact BKg3.out) hb); have n2_ := Aside0.mk (blk_below (g := g6) (o := .cells #[.slice none 0 0] 40 (0, 0)) (by (with_reducible repeat (first | refine blk_drewN ?_ _ | refine blk_drew ?_ | refine blk_alloc ?_ _)); exact BKg6.out) hb); clear HB BKg3 BKg6; have HB := n0_; have BKg3 := n1_; have BKg6 := n2_; clear n0_ n1_ n2_; have BKg9 := Aside0.mk hbox; clear hb hbox hg; have hcg9_0_w9 : w9.cell? ⟨g9, 0, none⟩ = some (.int .i64 0) := (blk_cell BKg9.out 0).trans rfl; have hfg9_0_w9 := blk_frozen BKg9.out 0; have hcg9_1_w9 : w9.cell? ⟨g9, 1, none⟩ = some (.slice none 0 0) := (blk_cell BKg9.out 1).trans rfl; have hfg9_1_w9 := blk_frozen BKg9.out 1)
          | ((with_reducible refine gate_store (t := 66) (p := 9) rfl ?_); refine store_event (t := 66) (p := 9) (v := ?vo_w10) (w1 := ((w9.setCell ⟨g9, 0, none⟩ (.int .i64 x.f0)).setCell ⟨g9, 1, none⟩ (.slice A9 x.f1.length c9))) ?hg ?ho ?hn ?hr ?_; (case ho => rfl); (case hg => rfl); (case hn => rfl); (case hr => first | (go_simp; done) | (go_simp; rfl)); intro w10 hw; have n0_ : Aside0 (Below w.heap.size w w10) := ⟨by rw [hw]; exact (below_set (below_set HB.out GEg9.out) GEg9.out)⟩; have n1_ : Aside0 (w10.heap[g9]? = some (.cells #[(.int .i64 x.f0), (.slice A9 x.f1.length c9)] 66 (0, 0))) := ⟨by rw [hw]; exact (blk_put (cs := #[(.int .i64 x.f0), .slice none 0 0]) (blk_put (cs := #[.int .i64 0, .slice none 0 0]) BKg9.out 0 (.int .i64 x.f0) rfl) 1 (.slice A9 x.f1.length c9) rfl)⟩; have n2_ : Aside0 (w10.heap[g3]? = some (.cells #[.slice A0 l0.length c0] 40 (0, 0))) := ⟨by rw [hw]; exact (blk_far (p := ⟨g9, 1, none⟩) (blk_far (p := ⟨g9, 0, none⟩) BKg3.out Ng3_g9.out (.int .i64 x.f0)) Ng3_g9.out (.slice A9 x.f1.length c9))⟩; have n3_ : Aside0 (w10.heap[g6]? = some (.cells #[.slice none 0 0] 40 (0, 0))) := ⟨by rw [hw]; exact (blk_far (p := ⟨g9, 1, none⟩) (blk_far (p := ⟨g9, 0, none⟩) BKg6.out Ng6_g9.out (.int .i64 x.f0)) Ng6_g9.out (.slice A9 x.f1.length c9))⟩; clear HB BKg9 BKg3 BKg6 hw; have HB := n0_; have BKg9 := n1_; have BKg3 := n2_; have BKg6 := n3_; clear n0_ n1_ n2_ n3_; have hcg9_0_w10 : w10.cell? ⟨g9, 0, none⟩ = some ((.int .i64 x.f0)) := (blk_cell BKg9.out 0).trans rfl; have hfg9_0_w10 := blk_frozen BKg9.out 0; have hcg9_1_w10 : w10.cell? ⟨g9, 1, none⟩ = some ((.slice A9 x.f1.length c9)) := (blk_cell BKg9.out 1).trans rfl; have hfg9_1_w10 := blk_frozen BKg9.out 1; have hcg6_0_w10 : w10.cell? ⟨g6, 0, none⟩ = some (.slice none 0 0) := (blk_cell BKg6.out 0).trans rfl; have hfg6_0_w10 := blk_frozen BKg6.out 0))
        refine bodyPost_ret (results_ct rfl _ _ g6 40 #[.slice none 0 0] (0, 0) _ rfl (by (with_reducible repeat (first | refine blk_drewN ?_ _ | refine blk_drew ?_ | refine blk_alloc ?_ _)); refine blk_put (cs := #[.slice none 0 0]) ?_ 0 _ rfl; (with_reducible repeat (first | refine blk_drewN ?_ _ | refine blk_drew ?_ | refine blk_alloc ?_ _)); exact BKg6.out) Try.underlying40 rfl (by kernel_rfl)) rfl ?_
        exact ⟨rfl, below_set HB.out GEg6.out⟩
      · have d0 : decide (x.f0 < 0) = false := decide_eq_false b0
        by_cases b1 : 512 ≤ x.f0
        · have d1 : decide (512 ≤ x.f0) = true := decide_eq_true b1
          clear b0 b1 hb
          go_wp2_with (first
            | ((with_reducible refine gate_dst (N := 9) rfl ?_); refine box_event ?hg (N := 9) ?hd (cs := #[.int .i64 0, .slice none 0 0]) (t := 66) ?hr ?_; (case hd => rfl); (case hg => rfl); (case hr => first | (go_simp; done) | (go_simp; rfl)); intro g9 hg w9 hbox hb; have GEg9 := Aside0.mk (show w.heap.size ≤ g9 by rw [hg]; exact (below_size (by repeat (first | (with_reducible first | exact HB.out | apply below_alloc | apply pw_below_drewN | apply below_drew1) | exact HB.out)))); have Ng3_g9 := Aside0.mk (show g3 ≠ g9 by rw [hg]; exact Nat.ne_of_lt (blk_lt (g := g3) (o := .cells #[.slice A0 l0.length c0] 40 (0, 0)) (by (with_reducible repeat (first | refine blk_drewN ?_ _ | refine blk_drew ?_ | refine blk_alloc ?_ _)); exact BKg3.out))); have Ng6_g9 := Aside0.mk (show g6 ≠ g9 by rw [hg]; exact Nat.ne_of_lt (blk_lt (g := g6) (o := .cells #[.slice none 0 0] 40 (0, 0)) (by (with_reducible repeat (first | refine blk_drewN ?_ _ | refine blk_drew ?_ | refine blk_alloc ?_ _)); exact BKg6.out))); have n0_ := Aside0.mk (below_step (by repeat (first | (with_reducible first | exact HB.out | apply below_alloc | apply pw_below_drewN | apply below_drew1) | exact HB.out)) hb); have n1_ := Aside0.mk (blk_below (g := g3) (o := .cells #[.slice A0 l0.length c0] 40 (0, 0)) (by (with_reducible repeat (first | refine blk_drewN ?_ _ | refine blk_drew ?_ | refine blk_alloc ?_ _)); exact BKg3.out) hb); have n2_ := Aside0.mk (blk_below (g := g6) (o := .cells #[.slice none 0 0] 40 (0, 0)) (by (with_reducible repeat (first | refine blk_drewN ?_ _ | refine blk_drew ?_ | refine blk_alloc ?_ _)); exact BKg6.out) hb); clear HB BKg3 BKg6; have HB := n0_; have BKg3 := n1_; have BKg6 := n2_; clear n0_ n1_ n2_; have BKg9 := Aside0.mk hbox; clear hb hbox hg; have hcg9_0_w9 : w9.cell? ⟨g9, 0, none⟩ = some (.int .i64 0) := (blk_cell BKg9.out 0).trans rfl; have hfg9_0_w9 := blk_frozen BKg9.out 0; have hcg9_1_w9 : w9.cell? ⟨g9, 1, none⟩ = some (.slice none 0 0) := (blk_cell BKg9.out 1).trans rfl; have hfg9_1_w9 := blk_frozen BKg9.out 1)
            | ((with_reducible refine gate_store (t := 66) (p := 9) rfl ?_); refine store_event (t := 66) (p := 9) (v := ?vo_w10) (w1 := ((w9.setCell ⟨g9, 0, none⟩ (.int .i64 x.f0)).setCell ⟨g9, 1, none⟩ (.slice A9 x.f1.length c9))) ?hg ?ho ?hn ?hr ?_; (case ho => rfl); (case hg => rfl); (case hn => rfl); (case hr => first | (go_simp; done) | (go_simp; rfl)); intro w10 hw; have n0_ : Aside0 (Below w.heap.size w w10) := ⟨by rw [hw]; exact (below_set (below_set HB.out GEg9.out) GEg9.out)⟩; have n1_ : Aside0 (w10.heap[g9]? = some (.cells #[(.int .i64 x.f0), (.slice A9 x.f1.length c9)] 66 (0, 0))) := ⟨by rw [hw]; exact (blk_put (cs := #[(.int .i64 x.f0), .slice none 0 0]) (blk_put (cs := #[.int .i64 0, .slice none 0 0]) BKg9.out 0 (.int .i64 x.f0) rfl) 1 (.slice A9 x.f1.length c9) rfl)⟩; have n2_ : Aside0 (w10.heap[g3]? = some (.cells #[.slice A0 l0.length c0] 40 (0, 0))) := ⟨by rw [hw]; exact (blk_far (p := ⟨g9, 1, none⟩) (blk_far (p := ⟨g9, 0, none⟩) BKg3.out Ng3_g9.out (.int .i64 x.f0)) Ng3_g9.out (.slice A9 x.f1.length c9))⟩; have n3_ : Aside0 (w10.heap[g6]? = some (.cells #[.slice none 0 0] 40 (0, 0))) := ⟨by rw [hw]; exact (blk_far (p := ⟨g9, 1, none⟩) (blk_far (p := ⟨g9, 0, none⟩) BKg6.out Ng6_g9.out (.int .i64 x.f0)) Ng6_g9.out (.slice A9 x.f1.length c9))⟩; clear HB BKg9 BKg3 BKg6 hw; have HB := n0_; have BKg9 := n1_; have BKg3 := n2_; have BKg6 := n3_; clear n0_ n1_ n2_ n3_; have hcg9_0_w10 : w10.cell? ⟨g9, 0, none⟩ = some ((.int .i64 x.f0)) := (blk_cell BKg9.out 0).trans rfl; have hfg9_0_w10 := blk_frozen BKg9.out 0; have hcg9_1_w10 : w10.cell? ⟨g9, 1, none⟩ = some ((.slice A9 x.f1.length c9)) := (blk_cell BKg9.out 1).trans rfl; have hfg9_1_w10 := blk_frozen BKg9.out 1; have hcg6_0_w10 : w10.cell? ⟨g6, 0, none⟩ = some (.slice none 0 0) := (blk_cell BKg6.out 0).trans rfl; have hfg6_0_w10 := blk_frozen BKg6.out 0))
          refine bodyPost_ret (results_ct rfl _ _ g6 40 #[.slice none 0 0] (0, 0) _ rfl (by (with_reducible repeat (first | refine blk_drewN ?_ _ | refine blk_drew ?_ | refine blk_alloc ?_ _)); refine blk_put (cs := #[.slice none 0 0]) ?_ 0 _ rfl; (with_reducible repeat (first | refine blk_drewN ?_ _ | refine blk_drew ?_ | refine blk_alloc ?_ _)); exact BKg6.out) Try.underlying40 rfl (by kernel_rfl)) rfl ?_
          exact ⟨rfl, below_set HB.out GEg6.out⟩
        · have d1 : decide (512 ≤ x.f0) = false := decide_eq_false b1
          have b2 : x.f1.length ≠ 512 := fun h => by rw [goodW, decide_eq_true (show 0 ≤ x.f0 by omega), decide_eq_true (show x.f0 < 512 by omega), decide_eq_true h] at hb; exact absurd hb (by decide)
          have d2 : ((x.f1.length : Int) != 512) = true := by simp; omega
          clear b0 b1 b2 hb
          go_wp2_with (first
            | ((with_reducible refine gate_dst (N := 9) rfl ?_); refine box_event ?hg (N := 9) ?hd (cs := #[.int .i64 0, .slice none 0 0]) (t := 66) ?hr ?_; (case hd => rfl); (case hg => rfl); (case hr => first | (go_simp; done) | (go_simp; rfl)); intro g9 hg w9 hbox hb; have GEg9 := Aside0.mk (show w.heap.size ≤ g9 by rw [hg]; exact (below_size (by repeat (first | (with_reducible first | exact HB.out | apply below_alloc | apply pw_below_drewN | apply below_drew1) | exact HB.out)))); have Ng3_g9 := Aside0.mk (show g3 ≠ g9 by rw [hg]; exact Nat.ne_of_lt (blk_lt (g := g3) (o := .cells #[.slice A0 l0.length c0] 40 (0, 0)) (by (with_reducible repeat (first | refine blk_drewN ?_ _ | refine blk_drew ?_ | refine blk_alloc ?_ _)); exact BKg3.out))); have Ng6_g9 := Aside0.mk (show g6 ≠ g9 by rw [hg]; exact Nat.ne_of_lt (blk_lt (g := g6) (o := .cells #[.slice none 0 0] 40 (0, 0)) (by (with_reducible repeat (first | refine blk_drewN ?_ _ | refine blk_drew ?_ | refine blk_alloc ?_ _)); exact BKg6.out))); have n0_ := Aside0.mk (below_step (by repeat (first | (with_reducible first | exact HB.out | apply below_alloc | apply pw_below_drewN | apply below_drew1) | exact HB.out)) hb); have n1_ := Aside0.mk (blk_below (g := g3) (o := .cells #[.slice A0 l0.length c0] 40 (0, 0)) (by (with_reducible repeat (first | refine blk_drewN ?_ _ | refine blk_drew ?_ | refine blk_alloc ?_ _)); exact BKg3.out) hb); have n2_ := Aside0.mk (blk_below (g := g6) (o := .cells #[.slice none 0 0] 40 (0, 0)) (by (with_reducible repeat (first | refine blk_drewN ?_ _ | refine blk_drew ?_ | refine blk_alloc ?_ _)); exact BKg6.out) hb); clear HB BKg3 BKg6; have HB := n0_; have BKg3 := n1_; have BKg6 := n2_; clear n0_ n1_ n2_; have BKg9 := Aside0.mk hbox; clear hb hbox hg; have hcg9_0_w9 : w9.cell? ⟨g9, 0, none⟩ = some (.int .i64 0) := (blk_cell BKg9.out 0).trans rfl; have hfg9_0_w9 := blk_frozen BKg9.out 0; have hcg9_1_w9 : w9.cell? ⟨g9, 1, none⟩ = some (.slice none 0 0) := (blk_cell BKg9.out 1).trans rfl; have hfg9_1_w9 := blk_frozen BKg9.out 1)
            | ((with_reducible refine gate_store (t := 66) (p := 9) rfl ?_); refine store_event (t := 66) (p := 9) (v := ?vo_w10) (w1 := ((w9.setCell ⟨g9, 0, none⟩ (.int .i64 x.f0)).setCell ⟨g9, 1, none⟩ (.slice A9 x.f1.length c9))) ?hg ?ho ?hn ?hr ?_; (case ho => rfl); (case hg => rfl); (case hn => rfl); (case hr => first | (go_simp; done) | (go_simp; rfl)); intro w10 hw; have n0_ : Aside0 (Below w.heap.size w w10) := ⟨by rw [hw]; exact (below_set (below_set HB.out GEg9.out) GEg9.out)⟩; have n1_ : Aside0 (w10.heap[g9]? = some (.cells #[(.int .i64 x.f0), (.slice A9 x.f1.length c9)] 66 (0, 0))) := ⟨by rw [hw]; exact (blk_put (cs := #[(.int .i64 x.f0), .slice none 0 0]) (blk_put (cs := #[.int .i64 0, .slice none 0 0]) BKg9.out 0 (.int .i64 x.f0) rfl) 1 (.slice A9 x.f1.length c9) rfl)⟩; have n2_ : Aside0 (w10.heap[g3]? = some (.cells #[.slice A0 l0.length c0] 40 (0, 0))) := ⟨by rw [hw]; exact (blk_far (p := ⟨g9, 1, none⟩) (blk_far (p := ⟨g9, 0, none⟩) BKg3.out Ng3_g9.out (.int .i64 x.f0)) Ng3_g9.out (.slice A9 x.f1.length c9))⟩; have n3_ : Aside0 (w10.heap[g6]? = some (.cells #[.slice none 0 0] 40 (0, 0))) := ⟨by rw [hw]; exact (blk_far (p := ⟨g9, 1, none⟩) (blk_far (p := ⟨g9, 0, none⟩) BKg6.out Ng6_g9.out (.int .i64 x.f0)) Ng6_g9.out (.slice A9 x.f1.length c9))⟩; clear HB BKg9 BKg3 BKg6 hw; have HB := n0_; have BKg9 := n1_; have BKg3 := n2_; have BKg6 := n3_; clear n0_ n1_ n2_ n3_; have hcg9_0_w10 : w10.cell? ⟨g9, 0, none⟩ = some ((.int .i64 x.f0)) := (blk_cell BKg9.out 0).trans rfl; have hfg9_0_w10 := blk_frozen BKg9.out 0; have hcg9_1_w10 : w10.cell? ⟨g9, 1, none⟩ = some ((.slice A9 x.f1.length c9)) := (blk_cell BKg9.out 1).trans rfl; have hfg9_1_w10 := blk_frozen BKg9.out 1; have hcg6_0_w10 : w10.cell? ⟨g6, 0, none⟩ = some (.slice none 0 0) := (blk_cell BKg6.out 0).trans rfl; have hfg6_0_w10 := blk_frozen BKg6.out 0))
          refine bodyPost_ret (results_ct rfl _ _ g6 40 #[.slice none 0 0] (0, 0) _ rfl (by (with_reducible repeat (first | refine blk_drewN ?_ _ | refine blk_drew ?_ | refine blk_alloc ?_ _)); refine blk_put (cs := #[.slice none 0 0]) ?_ 0 _ rfl; (with_reducible repeat (first | refine blk_drewN ?_ _ | refine blk_drew ?_ | refine blk_alloc ?_ _)); exact BKg6.out) Try.underlying40 rfl (by kernel_rfl)) rfl ?_
          exact ⟨rfl, below_set HB.out GEg6.out⟩
    | succ n =>
      have hg := HGOOD.out i (by have := HI.out; omega)
      rw [HXX.out] at hg
      obtain ⟨g0, g1, g2⟩ := goodW_of hg
      have d0 : decide (x.f0 < 0) = false := decide_eq_false (by omega)
      have d1 : decide (512 ≤ x.f0) = false := decide_eq_false (by omega)
      have d2 : ((x.f1.length : Int) != 512) = false := by rw [g2]; rfl
      clear g0 g1 g2 hg
      go_wp2_with (first
        | ((with_reducible refine gate_dst (N := 9) rfl ?_); refine box_event ?hg (N := 9) ?hd (cs := #[.int .i64 0, .slice none 0 0]) (t := 66) ?hr ?_; (case hd => rfl); (case hg => rfl); (case hr => first | (go_simp; done) | (go_simp; rfl)); intro g9 hg w9 hbox hb; have GEg9 := Aside0.mk (show w.heap.size ≤ g9 by rw [hg]; exact (below_size (by repeat (first | (with_reducible first | exact HB.out | apply below_alloc | apply pw_below_drewN | apply below_drew1) | exact HB.out)))); have Ng3_g9 := Aside0.mk (show g3 ≠ g9 by rw [hg]; exact Nat.ne_of_lt (blk_lt (g := g3) (o := .cells #[.slice A0 l0.length c0] 40 (0, 0)) (by (with_reducible repeat (first | refine blk_drewN ?_ _ | refine blk_drew ?_ | refine blk_alloc ?_ _)); exact BKg3.out))); have Ng6_g9 := Aside0.mk (show g6 ≠ g9 by rw [hg]; exact Nat.ne_of_lt (blk_lt (g := g6) (o := .cells #[.slice none 0 0] 40 (0, 0)) (by (with_reducible repeat (first | refine blk_drewN ?_ _ | refine blk_drew ?_ | refine blk_alloc ?_ _)); exact BKg6.out))); have n0_ := Aside0.mk (below_step (by repeat (first | (with_reducible first | exact HB.out | apply below_alloc | apply pw_below_drewN | apply below_drew1) | exact HB.out)) hb); have n1_ := Aside0.mk (blk_below (g := g3) (o := .cells #[.slice A0 l0.length c0] 40 (0, 0)) (by (with_reducible repeat (first | refine blk_drewN ?_ _ | refine blk_drew ?_ | refine blk_alloc ?_ _)); exact BKg3.out) hb); have n2_ := Aside0.mk (blk_below (g := g6) (o := .cells #[.slice none 0 0] 40 (0, 0)) (by (with_reducible repeat (first | refine blk_drewN ?_ _ | refine blk_drew ?_ | refine blk_alloc ?_ _)); exact BKg6.out) hb); clear HB BKg3 BKg6; have HB := n0_; have BKg3 := n1_; have BKg6 := n2_; clear n0_ n1_ n2_; have BKg9 := Aside0.mk hbox; clear hb hbox hg; have hcg9_0_w9 : w9.cell? ⟨g9, 0, none⟩ = some (.int .i64 0) := (blk_cell BKg9.out 0).trans rfl; have hfg9_0_w9 := blk_frozen BKg9.out 0; have hcg9_1_w9 : w9.cell? ⟨g9, 1, none⟩ = some (.slice none 0 0) := (blk_cell BKg9.out 1).trans rfl; have hfg9_1_w9 := blk_frozen BKg9.out 1)
        | ((with_reducible refine gate_store (t := 66) (p := 9) rfl ?_); refine store_event (t := 66) (p := 9) (v := ?vo_w10) (w1 := ((w9.setCell ⟨g9, 0, none⟩ (.int .i64 x.f0)).setCell ⟨g9, 1, none⟩ (.slice A9 x.f1.length c9))) ?hg ?ho ?hn ?hr ?_; (case ho => rfl); (case hg => rfl); (case hn => rfl); (case hr => first | (go_simp; done) | (go_simp; rfl)); intro w10 hw; have n0_ : Aside0 (Below w.heap.size w w10) := ⟨by rw [hw]; exact (below_set (below_set HB.out GEg9.out) GEg9.out)⟩; have n1_ : Aside0 (w10.heap[g9]? = some (.cells #[(.int .i64 x.f0), (.slice A9 x.f1.length c9)] 66 (0, 0))) := ⟨by rw [hw]; exact (blk_put (cs := #[(.int .i64 x.f0), .slice none 0 0]) (blk_put (cs := #[.int .i64 0, .slice none 0 0]) BKg9.out 0 (.int .i64 x.f0) rfl) 1 (.slice A9 x.f1.length c9) rfl)⟩; have n2_ : Aside0 (w10.heap[g3]? = some (.cells #[.slice A0 l0.length c0] 40 (0, 0))) := ⟨by rw [hw]; exact (blk_far (p := ⟨g9, 1, none⟩) (blk_far (p := ⟨g9, 0, none⟩) BKg3.out Ng3_g9.out (.int .i64 x.f0)) Ng3_g9.out (.slice A9 x.f1.length c9))⟩; have n3_ : Aside0 (w10.heap[g6]? = some (.cells #[.slice none 0 0] 40 (0, 0))) := ⟨by rw [hw]; exact (blk_far (p := ⟨g9, 1, none⟩) (blk_far (p := ⟨g9, 0, none⟩) BKg6.out Ng6_g9.out (.int .i64 x.f0)) Ng6_g9.out (.slice A9 x.f1.length c9))⟩; clear HB BKg9 BKg3 BKg6 hw; have HB := n0_; have BKg9 := n1_; have BKg3 := n2_; have BKg6 := n3_; clear n0_ n1_ n2_ n3_; have hcg9_0_w10 : w10.cell? ⟨g9, 0, none⟩ = some ((.int .i64 x.f0)) := (blk_cell BKg9.out 0).trans rfl; have hfg9_0_w10 := blk_frozen BKg9.out 0; have hcg9_1_w10 : w10.cell? ⟨g9, 1, none⟩ = some ((.slice A9 x.f1.length c9)) := (blk_cell BKg9.out 1).trans rfl; have hfg9_1_w10 := blk_frozen BKg9.out 1; have hcg6_0_w10 : w10.cell? ⟨g6, 0, none⟩ = some (.slice none 0 0) := (blk_cell BKg6.out 0).trans rfl; have hfg6_0_w10 := blk_frozen BKg6.out 0))
      go_roundw
      case rel => exact ⟨n, i + 1, congrArg (Value.int .i64) HW.out, ⟨by have := HI.out; omega⟩, BKg3, BKg6, HB⟩
      case measure => rw [HW.out]; have := HIN.out; have := HLEN.out; show 1048576 - ((i + 1 : Nat) : Int).toNat < 1048576 - ((i : Nat) : Int).toNat; omega
set_option maxHeartbeats 8000000 in
set_option maxRecDepth 100000 in
theorem DiskCrash_good (k : Nat) (A0 : Option Addr) (c0 : Nat) (l0 : List (List Int)) (A1 : Option Addr) (c1 : Nat) (ws : List S66) (A2 : Option Addr) (c2 : Nat) (cs : List Int) (w : World) (hr0 : Kd.C (Kd.slice 5 (Kd.int .u8)) w A0 l0.length l0) (hc0 : l0.length ≤ c0) (hr1 : Kd.C k66 w A1 ws.length ws) (hc1 : ws.length ≤ c1) (hr2 : Kd.C (Kd.int .i64) w A2 cs.length cs) (hc2 : cs.length ≤ c2) (hok : impl_zDiskOK.f k l0 = some true) (hlen : ws.length ≤ 512) (hgood : ∀ i, i < ws.length → goodW (rd_T66 ws (i : Int)) = true) (hcs : ∀ i, -9223372036854775808 ≤ cs.getD i 0 ∧ cs.getD i 0 ≤ 9223372036854775807) (hcl : cs.length ≤ 9223372036854775807) :
    Calls Try.prog 20 #[.agg #[.slice A0 l0.length c0], .slice A1 ws.length c1, .slice A2 cs.length c2] w fun e w' => ∃ v : Value, e = .returned (.tuple #[.agg #[v], .int .i64 0]) ∧ Kd.S (Kd.slice 5 (Kd.int .u8)) 62 w' w.heap.size (fun _ => True) v ((crash cs ws 0 ((List.range 512).map (blk l0))).take (trim (crash cs ws 0 ((List.range 512).map (blk l0))) (crash cs ws 0 ((List.range 512).map (blk l0))).length)) ∧ Below w.heap.size w w' := by
  have hgt : decide ((512 : Int) < (ws.length : Int)) = false := decide_eq_false (by omega)
  have hgt2 : decide (512 < ws.length) = false := decide_eq_false (by omega)
  have HLEN := Aside0.mk hlen
  have HGOOD := Aside0.mk hgood
  have HCS := Aside0.mk hcs
  have HCL := Aside0.mk hcl
  clear hlen hgood hcs hcl
  have hu40 := Try.underlying40
  have hu66 := Try.underlying66
  have HR0 := Aside0.mk hr0
  have HC0 := Aside0.mk hc0
  have HR1 := Aside0.mk hr1
  have HC1 := Aside0.mk hc1
  have HR2 := Aside0.mk hr2
  have HC2 := Aside0.mk hc2
  have HOK := Aside0.mk hok
  clear hr0 hc0 hr1 hc1 hr2 hc2 hok
  have HB := Aside0.mk (Below.refl w.heap.size w)
  go_enter Try.func20, Try.ntmps20
  go_wp2_with (first
    | ((with_reducible refine gate_dst (N := 3) rfl ?_); refine box_event ?hg (N := 3) ?hd (cs := #[.slice A0 l0.length c0]) (t := 40) ?hr ?_; (case hd => rfl); (case hg => rfl); (case hr => first | (go_simp; done) | (go_simp; rfl)); intro g3 hg w3 hbox hb; have GEg3 := Aside0.mk (show w.heap.size ≤ g3 by rw [hg]; exact (below_size (by repeat (first | (with_reducible first | exact HB.out | apply below_alloc | apply pw_below_drewN | apply below_drew1) | exact HB.out)))); have n0_ := Aside0.mk (below_step (by repeat (first | (with_reducible first | exact HB.out | apply below_alloc | apply pw_below_drewN | apply below_drew1) | exact HB.out)) hb); clear HB; have HB := n0_; clear n0_; have BKg3 := Aside0.mk hbox; clear hb hbox hg; have hcg3_0_w3 : w3.cell? ⟨g3, 0, none⟩ = some (.slice A0 l0.length c0) := (blk_cell BKg3.out 0).trans rfl; have hfg3_0_w3 := blk_frozen BKg3.out 0)
    | ((with_reducible refine gate_dst (N := 6) rfl ?_); refine box_event ?hg (N := 6) ?hd (cs := #[.slice none 0 0]) (t := 40) ?hr ?_; (case hd => rfl); (case hg => rfl); (case hr => first | (go_simp; done) | (go_simp; rfl)); intro g6 hg w6 hbox hb; have GEg6 := Aside0.mk (show w.heap.size ≤ g6 by rw [hg]; exact (below_size (by repeat (first | (with_reducible first | exact HB.out | apply below_alloc | apply pw_below_drewN | apply below_drew1) | exact HB.out)))); have Ng3_g6 := Aside0.mk (show g3 ≠ g6 by rw [hg]; exact Nat.ne_of_lt (blk_lt (g := g3) (o := .cells #[.slice A0 l0.length c0] 40 (0, 0)) (by (with_reducible repeat (first | refine blk_drewN ?_ _ | refine blk_drew ?_ | refine blk_alloc ?_ _)); exact BKg3.out))); have n0_ := Aside0.mk (below_step (by repeat (first | (with_reducible first | exact HB.out | apply below_alloc | apply pw_below_drewN | apply below_drew1) | exact HB.out)) hb); have n1_ := Aside0.mk (blk_below (g := g3) (o := .cells #[.slice A0 l0.length c0] 40 (0, 0)) (by (with_reducible repeat (first | refine blk_drewN ?_ _ | refine blk_drew ?_ | refine blk_alloc ?_ _)); exact BKg3.out) hb); clear HB BKg3; have HB := n0_; have BKg3 := n1_; clear n0_ n1_; have BKg6 := Aside0.mk hbox; clear hb hbox hg; have hcg6_0_w6 : w6.cell? ⟨g6, 0, none⟩ = some (.slice none 0 0) := (blk_cell BKg6.out 0).trans rfl; have hfg6_0_w6 := blk_frozen BKg6.out 0; have hcg3_0_w6 : w6.cell? ⟨g3, 0, none⟩ = some (.slice A0 l0.length c0) := (blk_cell BKg3.out 0).trans rfl; have hfg3_0_w6 := blk_frozen BKg3.out 0)
    | (go_at_call 40; (with_reducible refine (impl_zDiskOK.calls k A0 c0 l0 true _ (Kd.C_below HR0.out (by repeat (first | (with_reducible first | exact HB.out | apply below_alloc | apply pw_below_drewN | apply below_drew1) | exact HB.out))) HC0.out HOK.out).mono ?_); rintro e w8 ⟨rfl, hb⟩; have n0_ := Aside0.mk (below_step (by repeat (first | (with_reducible first | exact HB.out | apply below_alloc | apply pw_below_drewN | apply below_drew1) | exact HB.out)) hb); have n1_ := Aside0.mk (blk_below (g := g3) (o := .cells #[.slice A0 l0.length c0] 40 (0, 0)) (by (with_reducible repeat (first | refine blk_drewN ?_ _ | refine blk_drew ?_ | refine blk_alloc ?_ _)); exact BKg3.out) hb); have n2_ := Aside0.mk (blk_below (g := g6) (o := .cells #[.slice none 0 0] 40 (0, 0)) (by (with_reducible repeat (first | refine blk_drewN ?_ _ | refine blk_drew ?_ | refine blk_alloc ?_ _)); exact BKg6.out) hb); clear HB BKg3 BKg6; have HB := n0_; have BKg3 := n1_; have BKg6 := n2_; clear n0_ n1_ n2_; clear hb; have hcg3_0_w8 : w8.cell? ⟨g3, 0, none⟩ = some (.slice A0 l0.length c0) := (blk_cell BKg3.out 0).trans rfl; have hfg3_0_w8 := blk_frozen BKg3.out 0; have hcg6_0_w8 : w8.cell? ⟨g6, 0, none⟩ = some (.slice none 0 0) := (blk_cell BKg6.out 0).trans rfl; have hfg6_0_w8 := blk_frozen BKg6.out 0))
  go_loopw [25] (fun v25 w' => ∃ (n i : Nat), v25 = .int .i64 (i : Int) ∧ Aside0 (i + n = ws.length) ∧ Aside0 (w'.heap[g3]? = some (.cells #[.slice A0 l0.length c0] 40 (0, 0))) ∧ Aside0 (w'.heap[g6]? = some (.cells #[.slice none 0 0] 40 (0, 0))) ∧ Aside0 (Below w.heap.size w w')) (fun v25 _ => 1048576 - (intOf v25).toNat)
  case atStart => exact ⟨ws.length, 0, rfl, ⟨by omega⟩, BKg3, BKg6, HB⟩
  case round =>
    obtain ⟨n, i, rfl, HI, BKg3, BKg6, HB⟩ := hrel
    have HW := Aside0.mk (show wrap64 ((i : Int) + 1) = ((i + 1 : Nat) : Int) by have := HI.out; have := HLEN.out; unfold wrap64; omega)
    cases n with
    | succ n =>
      have HIN := Aside0.mk (show i < ws.length by have := HI.out; omega)
      have hlt : decide ((i : Int) < (ws.length : Int)) = true := decide_eq_true (by have := HIN.out; omega)
      have hlt2 : decide (i < ws.length) = true := decide_eq_true HIN.out
      have q0 : (0 : Int) ≤ (i : Int) := by omega
      have q1 : (i : Int) < (ws.length : Int) := by have := HIN.out; omega
      obtain ⟨ad, A9, c9, e9, hx0, hx1, hl9, hi9⟩ := at_T66 HR1.out (i : Int) q0 q1
      subst e9
      replace hx0 := (HB.out.cell (World.block_lt_of_cell? w _ hx0)).trans hx0
      replace hx1 := (HB.out.cell (World.block_lt_of_cell? w _ hx1)).trans hx1
      simp only [Int.toNat_natCast] at hx0 hx1
      have HX := Aside0.mk hi9
      have HCX := Aside0.mk hl9
      obtain ⟨x, hX⟩ : ∃ x, rd_T66 ws (i : Int) = x := ⟨_, rfl⟩
      rw [hX] at hx0 hx1 HX HCX
      have HXX := Aside0.mk hX
      replace q0 := eq_true q0
      replace q1 := eq_true q1
      clear hl9 hi9 hX
      have hg := HGOOD.out i HIN.out
      rw [HXX.out] at hg
      obtain ⟨g0, g1, g2⟩ := goodW_of hg
      have d0 : decide (x.f0 < 0) = false := decide_eq_false (by omega)
      have d1 : decide (512 ≤ x.f0) = false := decide_eq_false (by omega)
      have d2 : ((x.f1.length : Int) != 512) = false := by rw [g2]; rfl
      clear g0 g1 g2 hg
      go_wp2_with (first
        | ((with_reducible refine gate_dst (N := 9) rfl ?_); refine box_event ?hg (N := 9) ?hd (cs := #[.int .i64 0, .slice none 0 0]) (t := 66) ?hr ?_; (case hd => rfl); (case hg => rfl); (case hr => first | (go_simp; done) | (go_simp; rfl)); intro g9 hg w9 hbox hb; have GEg9 := Aside0.mk (show w.heap.size ≤ g9 by rw [hg]; exact (below_size (by repeat (first | (with_reducible first | exact HB.out | apply below_alloc | apply pw_below_drewN | apply below_drew1) | exact HB.out)))); have Ng3_g9 := Aside0.mk (show g3 ≠ g9 by rw [hg]; exact Nat.ne_of_lt (blk_lt (g := g3) (o := .cells #[.slice A0 l0.length c0] 40 (0, 0)) (by (with_reducible repeat (first | refine blk_drewN ?_ _ | refine blk_drew ?_ | refine blk_alloc ?_ _)); exact BKg3.out))); have Ng6_g9 := Aside0.mk (show g6 ≠ g9 by rw [hg]; exact Nat.ne_of_lt (blk_lt (g := g6) (o := .cells #[.slice none 0 0] 40 (0, 0)) (by (with_reducible repeat (first | refine blk_drewN ?_ _ | refine blk_drew ?_ | refine blk_alloc ?_ _)); exact BKg6.out))); have n0_ := Aside0.mk (below_step (by repeat (first | (with_reducible first | exact HB.out | apply below_alloc | apply pw_below_drewN | apply below_drew1) | exact HB.out)) hb); have n1_ := Aside0.mk (blk_below (g := g3) (o := .cells #[.slice A0 l0.length c0] 40 (0, 0)) (by (with_reducible repeat (first | refine blk_drewN ?_ _ | refine blk_drew ?_ | refine blk_alloc ?_ _)); exact BKg3.out) hb); have n2_ := Aside0.mk (blk_below (g := g6) (o := .cells #[.slice none 0 0] 40 (0, 0)) (by (with_reducible repeat (first | refine blk_drewN ?_ _ | refine blk_drew ?_ | refine blk_alloc ?_ _)); exact BKg6.out) hb); clear HB BKg3 BKg6; have HB := n0_; have BKg3 := n1_; have BKg6 := n2_; clear n0_ n1_ n2_; have BKg9 := Aside0.mk hbox; clear hb hbox hg; have hcg9_0_w9 : w9.cell? ⟨g9, 0, none⟩ = some (.int .i64 0) := (blk_cell BKg9.out 0).trans rfl; have hfg9_0_w9 := blk_frozen BKg9.out 0; have hcg9_1_w9 : w9.cell? ⟨g9, 1, none⟩ = some (.slice none 0 0) := (blk_cell BKg9.out 1).trans rfl; have hfg9_1_w9 := blk_frozen BKg9.out 1)
        | ((with_reducible refine gate_store (t := 66) (p := 9) rfl ?_); refine store_event (t := 66) (p := 9) (v := ?vo_w10) (w1 := ((w9.setCell ⟨g9, 0, none⟩ (.int .i64 x.f0)).setCell ⟨g9, 1, none⟩ (.slice A9 x.f1.length c9))) ?hg ?ho ?hn ?hr ?_; (case ho => rfl); (case hg => rfl); (case hn => rfl); (case hr => first | (go_simp; done) | (go_simp; rfl)); intro w10 hw; have n0_ : Aside0 (Below w.heap.size w w10) := ⟨by rw [hw]; exact (below_set (below_set HB.out GEg9.out) GEg9.out)⟩; have n1_ : Aside0 (w10.heap[g9]? = some (.cells #[(.int .i64 x.f0), (.slice A9 x.f1.length c9)] 66 (0, 0))) := ⟨by rw [hw]; exact (blk_put (cs := #[(.int .i64 x.f0), .slice none 0 0]) (blk_put (cs := #[.int .i64 0, .slice none 0 0]) BKg9.out 0 (.int .i64 x.f0) rfl) 1 (.slice A9 x.f1.length c9) rfl)⟩; have n2_ : Aside0 (w10.heap[g3]? = some (.cells #[.slice A0 l0.length c0] 40 (0, 0))) := ⟨by rw [hw]; exact (blk_far (p := ⟨g9, 1, none⟩) (blk_far (p := ⟨g9, 0, none⟩) BKg3.out Ng3_g9.out (.int .i64 x.f0)) Ng3_g9.out (.slice A9 x.f1.length c9))⟩; have n3_ : Aside0 (w10.heap[g6]? = some (.cells #[.slice none 0 0] 40 (0, 0))) := ⟨by rw [hw]; exact (blk_far (p := ⟨g9, 1, none⟩) (blk_far (p := ⟨g9, 0, none⟩) BKg6.out Ng6_g9.out (.int .i64 x.f0)) Ng6_g9.out (.slice A9 x.f1.length c9))⟩; clear HB BKg9 BKg3 BKg6 hw; have HB := n0_; have BKg9 := n1_; have BKg3 := n2_; have BKg6 := n3_; clear n0_ n1_ n2_ n3_; have hcg9_0_w10 : w10.cell? ⟨g9, 0, none⟩ = some ((.int .i64 x.f0)) := (blk_cell BKg9.out 0).trans rfl; have hfg9_0_w10 := blk_frozen BKg9.out 0; have hcg9_1_w10 : w10.cell? ⟨g9, 1, none⟩ = some ((.slice A9 x.f1.length c9)) := (blk_cell BKg9.out 1).trans rfl; have hfg9_1_w10 := blk_frozen BKg9.out 1; have hcg6_0_w10 : w10.cell? ⟨g6, 0, none⟩ = some (.slice none 0 0) := (blk_cell BKg6.out 0).trans rfl; have hfg6_0_w10 := blk_frozen BKg6.out 0))
      go_roundw
      case rel => exact ⟨n, i + 1, congrArg (Value.int .i64) HW.out, ⟨by have := HI.out; omega⟩, BKg3, BKg6, HB⟩
      case measure => rw [HW.out]; have := HIN.out; have := HLEN.out; show 1048576 - ((i + 1 : Nat) : Int).toNat < 1048576 - ((i : Nat) : Int).toNat; omega
    | zero =>
      have hlt : decide ((i : Int) < (ws.length : Int)) = false := decide_eq_false (by have := HI.out; omega)
      have hlt2 : decide (i < ws.length) = false := decide_eq_false (by have := HI.out; omega)
      have hcg3_0_wr : wr.cell? ⟨g3, 0, none⟩ = some (.slice A0 l0.length c0) := (blk_cell BKg3.out 0).trans rfl; have hfg3_0_wr := blk_frozen BKg3.out 0
      go_wp2_with (first | (go_at_call 41; (with_reducible refine (zBlocks_calls A0 c0 l0 _ (Kd.C_below HR0.out (by repeat (first | (with_reducible first | exact HB.out | apply below_alloc | apply pw_below_drewN | apply below_drew1) | exact HB.out))) HC0.out).mono ?_); rintro e w20 ⟨vl, rfl, hs, hb⟩; obtain ⟨gl, capl, el, _, _, _⟩ := Kd.S_form hs (by simp); rw [(fits_blk l0).1] at el; subst el; have HOL := Aside0.mk (Kd.S_lower hs (below_size (by repeat (first | (with_reducible first | exact HB.out | apply below_alloc | apply pw_below_drewN | apply below_drew1) | exact HB.out)))); clear hs; have n0_ := Aside0.mk (below_step (by repeat (first | (with_reducible first | exact HB.out | apply below_alloc | apply pw_below_drewN | apply below_drew1) | exact HB.out)) hb); have n1_ := Aside0.mk (blk_below (g := g3) (o := .cells #[.slice A0 l0.length c0] 40 (0, 0)) (by (with_reducible repeat (first | refine blk_drewN ?_ _ | refine blk_drew ?_ | refine blk_alloc ?_ _)); exact BKg3.out) hb); have n2_ := Aside0.mk (blk_below (g := g6) (o := .cells #[.slice none 0 0] 40 (0, 0)) (by (with_reducible repeat (first | refine blk_drewN ?_ _ | refine blk_drew ?_ | refine blk_alloc ?_ _)); exact BKg6.out) hb); clear HB BKg3 BKg6; have HB := n0_; have BKg3 := n1_; have BKg6 := n2_; clear n0_ n1_ n2_; clear hb))
      go_loopw [49] (fun v49 w' => ∃ (n i : Nat) (l' : List (List Int)), v49 = .int .i64 (i : Int) ∧ Aside0 (i + n = ws.length) ∧ Aside0 (Fits l') ∧ Aside0 (crash cs (ws.drop i) i l' = crash cs ws 0 ((List.range 512).map (blk l0))) ∧ Aside0 (Kd.S (Kd.slice 5 (Kd.int .u8)) 62 w' w.heap.size (fun _ => True) (.slice (some ⟨gl, 0, none⟩) 512 capl) l') ∧ Aside0 (w'.heap[g3]? = some (.cells #[.slice A0 l0.length c0] 40 (0, 0))) ∧ Aside0 (w'.heap[g6]? = some (.cells #[.slice none 0 0] 40 (0, 0))) ∧ Aside0 (Below w.heap.size w w')) (fun v49 _ => 1048576 - (intOf v49).toNat)
      case atStart => exact ⟨ws.length, 0, _, rfl, ⟨by omega⟩, ⟨fits_blk l0⟩, ⟨rfl⟩, HOL, BKg3, BKg6, HB⟩
      case round =>
        clear hlt hlt2
        obtain ⟨n, i, l', rfl, HI, HF, HCR, HO, BKg3, BKg6, HB⟩ := hrel
        have HW := Aside0.mk (show wrap64 ((i : Int) + 1) = ((i + 1 : Nat) : Int) by have := HI.out; have := HLEN.out; unfold wrap64; omega)
        cases n with
        | zero =>
          have hlt : decide ((i : Int) < (ws.length : Int)) = false := decide_eq_false (by have := HI.out; omega)
          have hlt2 : decide (i < ws.length) = false := decide_eq_false (by have := HI.out; omega)
          have hcg6_0_wr : wr.cell? ⟨g6, 0, none⟩ = some (.slice none 0 0) := (blk_cell BKg6.out 0).trans rfl; have hfg6_0_wr := blk_frozen BKg6.out 0
          have HF1 := Aside0.mk HF.out.1
          have HS9 := Aside0.mk (show l'.length ≤ capl by rw [HF1.out]; exact (Kd.S_reads' HO.out).2.1)
          have HZ := Aside0.mk ((crash_end cs ws i (by have := HI.out; omega) l').symm.trans HCR.out)
          go_wp2_with (first | (go_at_call 42; (with_reducible refine (zDisk_n (some ⟨gl, 0, none⟩) capl 512 l' _ HF1.out (Kd.S_reads' (by (with_reducible repeat (first | apply Kd.S_alloc | apply Kd.S_drewN | apply Kd.S_drew)); exact HO.out)).2.2 HS9.out (Nat.le_of_eq HF1.out) (fits_le HF.out)).mono ?_); rintro e w21 ⟨vd, rfl, hs, hb⟩; obtain ⟨Ad, cd, ed⟩ := Kd.S_slice hs; obtain ⟨m, hm⟩ : ∃ m, (l'.take (trim l' l'.length)).length = m := ⟨_, rfl⟩; rw [hm] at ed; subst ed; clear hm; have HD := Aside0.mk (Kd.S_lower hs (below_size (by repeat (first | (with_reducible first | exact HB.out | apply below_alloc | apply pw_below_drewN | apply below_drew1) | exact HB.out)))); clear hs; have n0_ := Aside0.mk (below_step (by repeat (first | (with_reducible first | exact HB.out | apply below_alloc | apply pw_below_drewN | apply below_drew1) | exact HB.out)) hb); have n1_ := Aside0.mk (blk_below (g := g3) (o := .cells #[.slice A0 l0.length c0] 40 (0, 0)) (by (with_reducible repeat (first | refine blk_drewN ?_ _ | refine blk_drew ?_ | refine blk_alloc ?_ _)); exact BKg3.out) hb); have n2_ := Aside0.mk (blk_below (g := g6) (o := .cells #[.slice none 0 0] 40 (0, 0)) (by (with_reducible repeat (first | refine blk_drewN ?_ _ | refine blk_drew ?_ | refine blk_alloc ?_ _)); exact BKg6.out) hb); clear HB BKg3 BKg6; have HB := n0_; have BKg3 := n1_; have BKg6 := n2_; clear n0_ n1_ n2_; clear hb; have hcg6_0_w21 : w21.cell? ⟨g6, 0, none⟩ = some (.slice none 0 0) := (blk_cell BKg6.out 0).trans rfl; have hfg6_0_w21 := blk_frozen BKg6.out 0))
          refine bodyPost_ret (results_ct rfl _ _ g6 40 #[.slice Ad m cd] (0, 0) _ rfl (by (with_reducible repeat (first | refine blk_drewN ?_ _ | refine blk_drew ?_ | refine blk_alloc ?_ _)); refine blk_put (cs := #[.slice none 0 0]) ?_ 0 _ rfl; (with_reducible repeat (first | refine blk_drewN ?_ _ | refine blk_drew ?_ | refine blk_alloc ?_ _)); exact BKg6.out) Try.underlying40 rfl (by kernel_rfl)) rfl ?_
          exact ⟨_, rfl, by rw [← HZ.out]; exact Kd.S_set HD.out BKg6.out (by decide) 0 _, below_set HB.out GEg6.out⟩
        | succ n =>
          have HIN := Aside0.mk (show i < ws.length by have := HI.out; omega)
          have hlt : decide ((i : Int) < (ws.length : Int)) = true := decide_eq_true (by have := HIN.out; omega)
          have hlt2 : decide (i < ws.length) = true := decide_eq_true HIN.out
          have q0 : (0 : Int) ≤ (i : Int) := by omega
          have q1 : (i : Int) < (ws.length : Int) := by have := HIN.out; omega
          obtain ⟨ad, A9, c9, e9, hx0, hx1, hl9, hi9⟩ := at_T66 HR1.out (i : Int) q0 q1
          subst e9
          replace hx0 := (HB.out.cell (World.block_lt_of_cell? w _ hx0)).trans hx0
          replace hx1 := (HB.out.cell (World.block_lt_of_cell? w _ hx1)).trans hx1
          simp only [Int.toNat_natCast] at hx0 hx1
          have HX := Aside0.mk hi9
          have HCX := Aside0.mk hl9
          obtain ⟨x, hX⟩ : ∃ x, rd_T66 ws (i : Int) = x := ⟨_, rfl⟩
          rw [hX] at hx0 hx1 HX HCX
          have HXX := Aside0.mk hX
          replace q0 := eq_true q0
          replace q1 := eq_true q1
          clear hl9 hi9 hX
          have hg := HGOOD.out i HIN.out
          rw [HXX.out] at hg
          obtain ⟨g0, g1, g2⟩ := goodW_of hg
          have HG := Aside0.mk (And.intro g0 (And.intro g1 g2))
          clear g0 g1 g2 hg
          by_cases hc : i < cs.length
          · have hc1 : decide ((i : Int) < (cs.length : Int)) = true := decide_eq_true (by omega)
            have hc2 : decide (i < cs.length) = true := decide_eq_true hc
            have s0 : (0 : Int) ≤ (i : Int) := by omega
            have s1 : (i : Int) < (cs.length : Int) := by omega
            obtain ⟨adc, ec, hxc⟩ := Kd.at_int HR2.out (i : Int) s0 s1
            cases ec
            obtain ⟨ch, hch⟩ : ∃ ch, rd cs (i : Int) = ch := ⟨_, rfl⟩
            rw [hch] at hxc
            simp only [Int.toNat_natCast] at hxc
            have HCH := Aside0.mk (show cs.getD i 0 = ch from hch)
            have hb9 := HCS.out i
            rw [HCH.out] at hb9
            obtain ⟨hb1, hb2⟩ := hb9
            replace s0 := eq_true s0
            replace s1 := eq_true s1
            clear hch hc
            by_cases hn : ch < 0
            · have hn1 : decide (ch < 0) = true := decide_eq_true hn
              have hn2 : -(ch + 1) % 9 = -(ch + 1) % 9 := rfl
              obtain ⟨cc, hcc⟩ : ∃ cc, -(ch + 1) = cc := ⟨_, rfl⟩
              have hn3 : 0 ≤ cc := by omega
              have HCC := Aside0.mk hcc
              clear hn2
              obtain ⟨m9, hm9⟩ : ∃ m : Int, cc % 9 = m := ⟨_, rfl⟩
              have hm0 : 0 ≤ m9 := by omega
              have hm1 : m9 < 9 := by omega
              obtain ⟨nn, hnn⟩ : ∃ nn : Nat, (nn : Int) = 64 * m9 := ⟨(64 * m9).toNat, by omega⟩
              have HNN := Aside0.mk (show cutN cs i = nn by unfold cutN absC; rw [HCH.out]; rw [if_pos hn, HCC.out]; omega)
              have HNL := Aside0.mk (show nn ≤ 512 by omega)
              have hmt : (cc).tmod 9 = m9 := by rw [Int.tmod_eq_emod_of_nonneg (by omega)]; exact hm9
              have hw0 : IntKind.i64.wrap (64 * m9) = (nn : Int) := by rw [i64_w]; unfold wrap64; omega
              clear hm9 hnn hm0 hm1
              go_wp2_with (first
                | ((with_reducible refine gate_dst (N := 12) rfl ?_); refine box_event ?hg (N := 12) ?hd (cs := #[.int .i64 0, .slice none 0 0]) (t := 66) ?hr ?_; (case hd => rfl); (case hg => rfl); (case hr => first | (go_simp; done) | (go_simp; rfl)); intro g12 hg w12 hbox hb; have GEg12 := Aside0.mk (show w.heap.size ≤ g12 by rw [hg]; exact (below_size (by repeat (first | (with_reducible first | exact HB.out | apply below_alloc | apply pw_below_drewN | apply below_drew1) | exact HB.out)))); have Ng3_g12 := Aside0.mk (show g3 ≠ g12 by rw [hg]; exact Nat.ne_of_lt (blk_lt (g := g3) (o := .cells #[.slice A0 l0.length c0] 40 (0, 0)) (by (with_reducible repeat (first | refine blk_drewN ?_ _ | refine blk_drew ?_ | refine blk_alloc ?_ _)); exact BKg3.out))); have Ng6_g12 := Aside0.mk (show g6 ≠ g12 by rw [hg]; exact Nat.ne_of_lt (blk_lt (g := g6) (o := .cells #[.slice none 0 0] 40 (0, 0)) (by (with_reducible repeat (first | refine blk_drewN ?_ _ | refine blk_drew ?_ | refine blk_alloc ?_ _)); exact BKg6.out))); have n0_ := Aside0.mk (below_step (by repeat (first | (with_reducible first | exact HB.out | apply below_alloc | apply pw_below_drewN | apply below_drew1) | exact HB.out)) hb); have n1_ := Aside0.mk (blk_below (g := g3) (o := .cells #[.slice A0 l0.length c0] 40 (0, 0)) (by (with_reducible repeat (first | refine blk_drewN ?_ _ | refine blk_drew ?_ | refine blk_alloc ?_ _)); exact BKg3.out) hb); have n2_ := Aside0.mk (blk_below (g := g6) (o := .cells #[.slice none 0 0] 40 (0, 0)) (by (with_reducible repeat (first | refine blk_drewN ?_ _ | refine blk_drew ?_ | refine blk_alloc ?_ _)); exact BKg6.out) hb); have n3_ := Aside0.mk (Kd.S_below (by (with_reducible repeat (first | apply Kd.S_alloc | apply Kd.S_drewN | apply Kd.S_drew)); exact HO.out) hb); clear HB BKg3 BKg6 HO; have HB := n0_; have BKg3 := n1_; have BKg6 := n2_; have HO := n3_; clear n0_ n1_ n2_ n3_; have BKg12 := Aside0.mk hbox; clear hb hbox hg; have hcg12_0_w12 : w12.cell? ⟨g12, 0, none⟩ = some (.int .i64 0) := (blk_cell BKg12.out 0).trans rfl; have hfg12_0_w12 := blk_frozen BKg12.out 0; have hcg12_1_w12 : w12.cell? ⟨g12, 1, none⟩ = some (.slice none 0 0) := (blk_cell BKg12.out 1).trans rfl; have hfg12_1_w12 := blk_frozen BKg12.out 1)
                | ((with_reducible refine gate_store (t := 66) (p := 12) rfl ?_); refine store_event (t := 66) (p := 12) (v := ?vo_w13) (w1 := ((w12.setCell ⟨g12, 0, none⟩ (.int .i64 x.f0)).setCell ⟨g12, 1, none⟩ (.slice A9 x.f1.length c9))) ?hg ?ho ?hn ?hr ?_; (case ho => rfl); (case hg => rfl); (case hn => rfl); (case hr => first | (go_simp; done) | (go_simp; rfl)); intro w13 hw; have n0_ : Aside0 (Below w.heap.size w w13) := ⟨by rw [hw]; exact (below_set (below_set HB.out GEg12.out) GEg12.out)⟩; have n1_ : Aside0 (w13.heap[g12]? = some (.cells #[(.int .i64 x.f0), (.slice A9 x.f1.length c9)] 66 (0, 0))) := ⟨by rw [hw]; exact (blk_put (cs := #[(.int .i64 x.f0), .slice none 0 0]) (blk_put (cs := #[.int .i64 0, .slice none 0 0]) BKg12.out 0 (.int .i64 x.f0) rfl) 1 (.slice A9 x.f1.length c9) rfl)⟩; have n2_ : Aside0 (w13.heap[g3]? = some (.cells #[.slice A0 l0.length c0] 40 (0, 0))) := ⟨by rw [hw]; exact (blk_far (p := ⟨g12, 1, none⟩) (blk_far (p := ⟨g12, 0, none⟩) BKg3.out Ng3_g12.out (.int .i64 x.f0)) Ng3_g12.out (.slice A9 x.f1.length c9))⟩; have n3_ : Aside0 (w13.heap[g6]? = some (.cells #[.slice none 0 0] 40 (0, 0))) := ⟨by rw [hw]; exact (blk_far (p := ⟨g12, 1, none⟩) (blk_far (p := ⟨g12, 0, none⟩) BKg6.out Ng6_g12.out (.int .i64 x.f0)) Ng6_g12.out (.slice A9 x.f1.length c9))⟩; have n4_ : Aside0 (Kd.S (Kd.slice 5 (Kd.int .u8)) 62 w13 w.heap.size (fun _ => True) (.slice (some ⟨gl, 0, none⟩) 512 capl) l') := ⟨by rw [hw]; exact (Kd.S_set (Kd.S_set HO.out BKg12.out (by decide) 0 (.int .i64 x.f0)) (blk_put (cs := #[.int .i64 0, .slice none 0 0]) BKg12.out 0 (.int .i64 x.f0) rfl) (by decide) 1 (.slice A9 x.f1.length c9))⟩; clear HB BKg12 BKg3 BKg6 HO hw; have HB := n0_; have BKg12 := n1_; have BKg3 := n2_; have BKg6 := n3_; have HO := n4_; clear n0_ n1_ n2_ n3_ n4_; have hcg12_0_w13 : w13.cell? ⟨g12, 0, none⟩ = some ((.int .i64 x.f0)) := (blk_cell BKg12.out 0).trans rfl; have hfg12_0_w13 := blk_frozen BKg12.out 0; have hcg12_1_w13 : w13.cell? ⟨g12, 1, none⟩ = some ((.slice A9 x.f1.length c9)) := (blk_cell BKg12.out 1).trans rfl; have hfg12_1_w13 := blk_frozen BKg12.out 1; have hcg6_0_w13 : w13.cell? ⟨g6, 0, none⟩ = some (.slice none 0 0) := (blk_cell BKg6.out 0).trans rfl; have hfg6_0_w13 := blk_frozen BKg6.out 0; have hxd := (HB.out.cell (World.block_lt_of_cell? w _ hxc)).trans hxc))
              have p0 : 0 ≤ x.f0 := HG.out.1
              have p1 : x.f0 < ((512 : Nat) : Int) := HG.out.2.1
              obtain ⟨oki, csl, hcl, hM, hcc, hfr, hoki, hH⟩ := Kd.S_elem HO.out [] x.f0 p0 p1
              obtain ⟨ve, rfl, hR⟩ := hM
              obtain ⟨z, hz⟩ : ∃ z, l'.getD x.f0.toNat [] = z := ⟨_, rfl⟩
              rw [hz] at hR
              have hzl : z.length = 512 := by rw [← hz]; exact HF.out.2 _ (by omega)
              obtain ⟨ge, cape, e3, _, _, _⟩ := Kd.R_form hR (by rw [hzl]; decide)
              rw [hzl] at e3
              subst e3
              have hx := hcc 0 _ rfl
              have hf := hfr 0
              simp only [show ((Kd.slice 5 (Kd.int .u8))).sz = 1 from rfl, Nat.mul_one, Nat.add_zero] at hx hf
              have HRR := Aside0.mk hR
              have HH := Aside0.mk hH
              have HZZ := Aside0.mk hz
              have HZL := Aside0.mk hzl
              have HTK := Aside0.mk (show Kd.C (Kd.int .u8) w13 A9 nn (x.f1.take nn) by
                have h9 := Kd.C_take (m := nn) (Kd.C_below HX.out HB.out) (by rw [HG.out.2.2]; exact HNL.out)
                rwa [show (x.f1.take nn).length = nn by rw [List.length_take, HG.out.2.2]; exact Nat.min_eq_left HNL.out] at h9)
              have r0 : ((nn : Int) ≤ (c9 : Int)) := by have := HCX.out; have := HG.out.2.2; have := HNL.out; omega
              have r1 : (0 : Int) ≤ (nn : Int) := by omega
              have p2 : x.f0 < 512 := p1
              replace p0 := eq_true p0
              replace p1 := eq_true p1
              replace p2 := eq_true p2
              replace r0 := eq_true r0
              replace r1 := eq_true r1
              clear hR hH hcc hfr hcl hz hzl hoki
              go_region_law (refine R_copy_step (enc := fun x => .int .u8 x) (h1 := fun _ => rfl) 0 (w0 := w) w.heap.size rfl (.tmp 71) (.tmp 77) 62 62 5 rfl Try.underlying62 rfl (.slice (some ⟨ge, 0, none⟩) 512 cape) z (x.f1.take nn) A9 nn c9 oki (by simp [Act.eval, Act.put]) (by simp [Act.eval, Act.put]) (by (with_reducible repeat (first | apply Kd.R_drewN | apply Kd.R_drew)); exact HRR.out) (by (with_reducible repeat (first | apply Kd.C_drewN | apply Kd.C_drew)); exact HTK.out) (by repeat (first | (with_reducible first | exact HB.out | apply below_alloc | apply pw_below_drewN | apply below_drew1) | exact HB.out)) (below_size (by repeat (first | (with_reducible first | exact HB.out | apply below_alloc | apply pw_below_drewN | apply below_drew1) | exact HB.out))) ?_; intro w19 hrow hb2 hg2; (have HK := Aside0.mk (show Kept w13 w19 (fun k => some k = (Value.slice (some ⟨ge, 0, none⟩) 512 cape).ownBlock) from ⟨by have h9 := hg2.size; exact h9, fun k hlt hn => hg2.block k hlt hn⟩)); (have n0_ := Aside0.mk (Kd.H_back (Kd.H_kept HH.out HK.out (fun k _ hn hs => hn (HRR.out.1 k hs.symm))) (Kd.M_row hrow) (fun _ h => h))); (have n1_ := Aside0.mk hb2); (have n2_ := Aside0.mk ((HK.out.2 g3 (blk_lt BKg3.out) (Kd.R_ne HRR.out BKg3.out (by decide))).trans BKg3.out)); (have n3_ := Aside0.mk ((HK.out.2 g6 (blk_lt BKg6.out) (Kd.R_ne HRR.out BKg6.out (by decide))).trans BKg6.out)); clear hrow hb2 hg2 HK)
              all_goals go_wp2
              all_goals
                go_roundw
                case rel => exact ⟨n, i + 1, putW l' x nn, congrArg (Value.int .i64) HW.out, ⟨by have := HI.out; omega⟩, ⟨fits_put HF.out HG.out.2.2 HNL.out⟩, ⟨by rw [← HCR.out, crash_step cs ws i HIN.out l', HXX.out, HNN.out]⟩, ⟨by have h := n0_.out; rw [copied x.f1 z nn HZL.out HNL.out, ← HZZ.out] at h; exact h⟩, n2_, n3_, n1_⟩
                case measure => rw [HW.out]; have := HIN.out; have := HLEN.out; show 1048576 - ((i + 1 : Nat) : Int).toNat < 1048576 - ((i : Nat) : Int).toNat; omega
            · have hn1 : decide (ch < 0) = false := decide_eq_false hn
              have hn2 : 0 ≤ ch := by omega
              clear hn
              obtain ⟨m9, hm9⟩ : ∃ m : Int, ch % 9 = m := ⟨_, rfl⟩
              have hm0 : 0 ≤ m9 := by omega
              have hm1 : m9 < 9 := by omega
              obtain ⟨nn, hnn⟩ : ∃ nn : Nat, (nn : Int) = 64 * m9 := ⟨(64 * m9).toNat, by omega⟩
              have HNN := Aside0.mk (show cutN cs i = nn by unfold cutN absC; rw [HCH.out]; rw [if_neg (by omega)]; omega)
              have HNL := Aside0.mk (show nn ≤ 512 by omega)
              have hmt : (ch).tmod 9 = m9 := by rw [Int.tmod_eq_emod_of_nonneg (by omega)]; exact hm9
              have hw0 : IntKind.i64.wrap (64 * m9) = (nn : Int) := by rw [i64_w]; unfold wrap64; omega
              clear hm9 hnn hm0 hm1
              go_wp2_with (first
                | ((with_reducible refine gate_dst (N := 12) rfl ?_); refine box_event ?hg (N := 12) ?hd (cs := #[.int .i64 0, .slice none 0 0]) (t := 66) ?hr ?_; (case hd => rfl); (case hg => rfl); (case hr => first | (go_simp; done) | (go_simp; rfl)); intro g12 hg w12 hbox hb; have GEg12 := Aside0.mk (show w.heap.size ≤ g12 by rw [hg]; exact (below_size (by repeat (first | (with_reducible first | exact HB.out | apply below_alloc | apply pw_below_drewN | apply below_drew1) | exact HB.out)))); have Ng3_g12 := Aside0.mk (show g3 ≠ g12 by rw [hg]; exact Nat.ne_of_lt (blk_lt (g := g3) (o := .cells #[.slice A0 l0.length c0] 40 (0, 0)) (by (with_reducible repeat (first | refine blk_drewN ?_ _ | refine blk_drew ?_ | refine blk_alloc ?_ _)); exact BKg3.out))); have Ng6_g12 := Aside0.mk (show g6 ≠ g12 by rw [hg]; exact Nat.ne_of_lt (blk_lt (g := g6) (o := .cells #[.slice none 0 0] 40 (0, 0)) (by (with_reducible repeat (first | refine blk_drewN ?_ _ | refine blk_drew ?_ | refine blk_alloc ?_ _)); exact BKg6.out))); have n0_ := Aside0.mk (below_step (by repeat (first | (with_reducible first | exact HB.out | apply below_alloc | apply pw_below_drewN | apply below_drew1) | exact HB.out)) hb); have n1_ := Aside0.mk (blk_below (g := g3) (o := .cells #[.slice A0 l0.length c0] 40 (0, 0)) (by (with_reducible repeat (first | refine blk_drewN ?_ _ | refine blk_drew ?_ | refine blk_alloc ?_ _)); exact BKg3.out) hb); have n2_ := Aside0.mk (blk_below (g := g6) (o := .cells #[.slice none 0 0] 40 (0, 0)) (by (with_reducible repeat (first | refine blk_drewN ?_ _ | refine blk_drew ?_ | refine blk_alloc ?_ _)); exact BKg6.out) hb); have n3_ := Aside0.mk (Kd.S_below (by (with_reducible repeat (first | apply Kd.S_alloc | apply Kd.S_drewN | apply Kd.S_drew)); exact HO.out) hb); clear HB BKg3 BKg6 HO; have HB := n0_; have BKg3 := n1_; have BKg6 := n2_; have HO := n3_; clear n0_ n1_ n2_ n3_; have BKg12 := Aside0.mk hbox; clear hb hbox hg; have hcg12_0_w12 : w12.cell? ⟨g12, 0, none⟩ = some (.int .i64 0) := (blk_cell BKg12.out 0).trans rfl; have hfg12_0_w12 := blk_frozen BKg12.out 0; have hcg12_1_w12 : w12.cell? ⟨g12, 1, none⟩ = some (.slice none 0 0) := (blk_cell BKg12.out 1).trans rfl; have hfg12_1_w12 := blk_frozen BKg12.out 1)
                | ((with_reducible refine gate_store (t := 66) (p := 12) rfl ?_); refine store_event (t := 66) (p := 12) (v := ?vo_w13) (w1 := ((w12.setCell ⟨g12, 0, none⟩ (.int .i64 x.f0)).setCell ⟨g12, 1, none⟩ (.slice A9 x.f1.length c9))) ?hg ?ho ?hn ?hr ?_; (case ho => rfl); (case hg => rfl); (case hn => rfl); (case hr => first | (go_simp; done) | (go_simp; rfl)); intro w13 hw; have n0_ : Aside0 (Below w.heap.size w w13) := ⟨by rw [hw]; exact (below_set (below_set HB.out GEg12.out) GEg12.out)⟩; have n1_ : Aside0 (w13.heap[g12]? = some (.cells #[(.int .i64 x.f0), (.slice A9 x.f1.length c9)] 66 (0, 0))) := ⟨by rw [hw]; exact (blk_put (cs := #[(.int .i64 x.f0), .slice none 0 0]) (blk_put (cs := #[.int .i64 0, .slice none 0 0]) BKg12.out 0 (.int .i64 x.f0) rfl) 1 (.slice A9 x.f1.length c9) rfl)⟩; have n2_ : Aside0 (w13.heap[g3]? = some (.cells #[.slice A0 l0.length c0] 40 (0, 0))) := ⟨by rw [hw]; exact (blk_far (p := ⟨g12, 1, none⟩) (blk_far (p := ⟨g12, 0, none⟩) BKg3.out Ng3_g12.out (.int .i64 x.f0)) Ng3_g12.out (.slice A9 x.f1.length c9))⟩; have n3_ : Aside0 (w13.heap[g6]? = some (.cells #[.slice none 0 0] 40 (0, 0))) := ⟨by rw [hw]; exact (blk_far (p := ⟨g12, 1, none⟩) (blk_far (p := ⟨g12, 0, none⟩) BKg6.out Ng6_g12.out (.int .i64 x.f0)) Ng6_g12.out (.slice A9 x.f1.length c9))⟩; have n4_ : Aside0 (Kd.S (Kd.slice 5 (Kd.int .u8)) 62 w13 w.heap.size (fun _ => True) (.slice (some ⟨gl, 0, none⟩) 512 capl) l') := ⟨by rw [hw]; exact (Kd.S_set (Kd.S_set HO.out BKg12.out (by decide) 0 (.int .i64 x.f0)) (blk_put (cs := #[.int .i64 0, .slice none 0 0]) BKg12.out 0 (.int .i64 x.f0) rfl) (by decide) 1 (.slice A9 x.f1.length c9))⟩; clear HB BKg12 BKg3 BKg6 HO hw; have HB := n0_; have BKg12 := n1_; have BKg3 := n2_; have BKg6 := n3_; have HO := n4_; clear n0_ n1_ n2_ n3_ n4_; have hcg12_0_w13 : w13.cell? ⟨g12, 0, none⟩ = some ((.int .i64 x.f0)) := (blk_cell BKg12.out 0).trans rfl; have hfg12_0_w13 := blk_frozen BKg12.out 0; have hcg12_1_w13 : w13.cell? ⟨g12, 1, none⟩ = some ((.slice A9 x.f1.length c9)) := (blk_cell BKg12.out 1).trans rfl; have hfg12_1_w13 := blk_frozen BKg12.out 1; have hcg6_0_w13 : w13.cell? ⟨g6, 0, none⟩ = some (.slice none 0 0) := (blk_cell BKg6.out 0).trans rfl; have hfg6_0_w13 := blk_frozen BKg6.out 0; have hxd := (HB.out.cell (World.block_lt_of_cell? w _ hxc)).trans hxc))
              have p0 : 0 ≤ x.f0 := HG.out.1
              have p1 : x.f0 < ((512 : Nat) : Int) := HG.out.2.1
              obtain ⟨oki, csl, hcl, hM, hcc, hfr, hoki, hH⟩ := Kd.S_elem HO.out [] x.f0 p0 p1
              obtain ⟨ve, rfl, hR⟩ := hM
              obtain ⟨z, hz⟩ : ∃ z, l'.getD x.f0.toNat [] = z := ⟨_, rfl⟩
              rw [hz] at hR
              have hzl : z.length = 512 := by rw [← hz]; exact HF.out.2 _ (by omega)
              obtain ⟨ge, cape, e3, _, _, _⟩ := Kd.R_form hR (by rw [hzl]; decide)
              rw [hzl] at e3
              subst e3
              have hx := hcc 0 _ rfl
              have hf := hfr 0
              simp only [show ((Kd.slice 5 (Kd.int .u8))).sz = 1 from rfl, Nat.mul_one, Nat.add_zero] at hx hf
              have HRR := Aside0.mk hR
              have HH := Aside0.mk hH
              have HZZ := Aside0.mk hz
              have HZL := Aside0.mk hzl
              have HTK := Aside0.mk (show Kd.C (Kd.int .u8) w13 A9 nn (x.f1.take nn) by
                have h9 := Kd.C_take (m := nn) (Kd.C_below HX.out HB.out) (by rw [HG.out.2.2]; exact HNL.out)
                rwa [show (x.f1.take nn).length = nn by rw [List.length_take, HG.out.2.2]; exact Nat.min_eq_left HNL.out] at h9)
              have r0 : ((nn : Int) ≤ (c9 : Int)) := by have := HCX.out; have := HG.out.2.2; have := HNL.out; omega
              have r1 : (0 : Int) ≤ (nn : Int) := by omega
              have p2 : x.f0 < 512 := p1
              replace p0 := eq_true p0
              replace p1 := eq_true p1
              replace p2 := eq_true p2
              replace r0 := eq_true r0
              replace r1 := eq_true r1
              clear hR hH hcc hfr hcl hz hzl hoki
              go_region_law (refine R_copy_step (enc := fun x => .int .u8 x) (h1 := fun _ => rfl) 0 (w0 := w) w.heap.size rfl (.tmp 71) (.tmp 77) 62 62 5 rfl Try.underlying62 rfl (.slice (some ⟨ge, 0, none⟩) 512 cape) z (x.f1.take nn) A9 nn c9 oki (by simp [Act.eval, Act.put]) (by simp [Act.eval, Act.put]) (by (with_reducible repeat (first | apply Kd.R_drewN | apply Kd.R_drew)); exact HRR.out) (by (with_reducible repeat (first | apply Kd.C_drewN | apply Kd.C_drew)); exact HTK.out) (by repeat (first | (with_reducible first | exact HB.out | apply below_alloc | apply pw_below_drewN | apply below_drew1) | exact HB.out)) (below_size (by repeat (first | (with_reducible first | exact HB.out | apply below_alloc | apply pw_below_drewN | apply below_drew1) | exact HB.out))) ?_; intro w19 hrow hb2 hg2; (have HK := Aside0.mk (show Kept w13 w19 (fun k => some k = (Value.slice (some ⟨ge, 0, none⟩) 512 cape).ownBlock) from ⟨by have h9 := hg2.size; exact h9, fun k hlt hn => hg2.block k hlt hn⟩)); (have n0_ := Aside0.mk (Kd.H_back (Kd.H_kept HH.out HK.out (fun k _ hn hs => hn (HRR.out.1 k hs.symm))) (Kd.M_row hrow) (fun _ h => h))); (have n1_ := Aside0.mk hb2); (have n2_ := Aside0.mk ((HK.out.2 g3 (blk_lt BKg3.out) (Kd.R_ne HRR.out BKg3.out (by decide))).trans BKg3.out)); (have n3_ := Aside0.mk ((HK.out.2 g6 (blk_lt BKg6.out) (Kd.R_ne HRR.out BKg6.out (by decide))).trans BKg6.out)); clear hrow hb2 hg2 HK)
              all_goals go_wp2
              all_goals
                go_roundw
                case rel => exact ⟨n, i + 1, putW l' x nn, congrArg (Value.int .i64) HW.out, ⟨by have := HI.out; omega⟩, ⟨fits_put HF.out HG.out.2.2 HNL.out⟩, ⟨by rw [← HCR.out, crash_step cs ws i HIN.out l', HXX.out, HNN.out]⟩, ⟨by have h := n0_.out; rw [copied x.f1 z nn HZL.out HNL.out, ← HZZ.out] at h; exact h⟩, n2_, n3_, n1_⟩
                case measure => rw [HW.out]; have := HIN.out; have := HLEN.out; show 1048576 - ((i + 1 : Nat) : Int).toNat < 1048576 - ((i : Nat) : Int).toNat; omega
          · have hc1 : decide ((i : Int) < (cs.length : Int)) = false := decide_eq_false (by omega)
            have hc2 : decide (i < cs.length) = false := decide_eq_false hc
            clear hc
            have HNN := Aside0.mk (show cutN cs i = 0 by unfold cutN; rw [show cs.getD i 0 = 0 by simp [List.getD, List.getElem?_eq_none (show cs.length ≤ i by have := of_decide_eq_false hc2; omega)]]; rfl)
            have HNL := Aside0.mk (show 0 ≤ 512 by omega)
            have hw0 : IntKind.i64.wrap 0 = 0 := rfl
            go_wp2_with (first
              | ((with_reducible refine gate_dst (N := 12) rfl ?_); refine box_event ?hg (N := 12) ?hd (cs := #[.int .i64 0, .slice none 0 0]) (t := 66) ?hr ?_; (case hd => rfl); (case hg => rfl); (case hr => first | (go_simp; done) | (go_simp; rfl)); intro g12 hg w12 hbox hb; have GEg12 := Aside0.mk (show w.heap.size ≤ g12 by rw [hg]; exact (below_size (by repeat (first | (with_reducible first | exact HB.out | apply below_alloc | apply pw_below_drewN | apply below_drew1) | exact HB.out)))); have Ng3_g12 := Aside0.mk (show g3 ≠ g12 by rw [hg]; exact Nat.ne_of_lt (blk_lt (g := g3) (o := .cells #[.slice A0 l0.length c0] 40 (0, 0)) (by (with_reducible repeat (first | refine blk_drewN ?_ _ | refine blk_drew ?_ | refine blk_alloc ?_ _)); exact BKg3.out))); have Ng6_g12 := Aside0.mk (show g6 ≠ g12 by rw [hg]; exact Nat.ne_of_lt (blk_lt (g := g6) (o := .cells #[.slice none 0 0] 40 (0, 0)) (by (with_reducible repeat (first | refine blk_drewN ?_ _ | refine blk_drew ?_ | refine blk_alloc ?_ _)); exact BKg6.out))); have n0_ := Aside0.mk (below_step (by repeat (first | (with_reducible first | exact HB.out | apply below_alloc | apply pw_below_drewN | apply below_drew1) | exact HB.out)) hb); have n1_ := Aside0.mk (blk_below (g := g3) (o := .cells #[.slice A0 l0.length c0] 40 (0, 0)) (by (with_reducible repeat (first | refine blk_drewN ?_ _ | refine blk_drew ?_ | refine blk_alloc ?_ _)); exact BKg3.out) hb); have n2_ := Aside0.mk (blk_below (g := g6) (o := .cells #[.slice none 0 0] 40 (0, 0)) (by (with_reducible repeat (first | refine blk_drewN ?_ _ | refine blk_drew ?_ | refine blk_alloc ?_ _)); exact BKg6.out) hb); have n3_ := Aside0.mk (Kd.S_below (by (with_reducible repeat (first | apply Kd.S_alloc | apply Kd.S_drewN | apply Kd.S_drew)); exact HO.out) hb); clear HB BKg3 BKg6 HO; have HB := n0_; have BKg3 := n1_; have BKg6 := n2_; have HO := n3_; clear n0_ n1_ n2_ n3_; have BKg12 := Aside0.mk hbox; clear hb hbox hg; have hcg12_0_w12 : w12.cell? ⟨g12, 0, none⟩ = some (.int .i64 0) := (blk_cell BKg12.out 0).trans rfl; have hfg12_0_w12 := blk_frozen BKg12.out 0; have hcg12_1_w12 : w12.cell? ⟨g12, 1, none⟩ = some (.slice none 0 0) := (blk_cell BKg12.out 1).trans rfl; have hfg12_1_w12 := blk_frozen BKg12.out 1)
              | ((with_reducible refine gate_store (t := 66) (p := 12) rfl ?_); refine store_event (t := 66) (p := 12) (v := ?vo_w13) (w1 := ((w12.setCell ⟨g12, 0, none⟩ (.int .i64 x.f0)).setCell ⟨g12, 1, none⟩ (.slice A9 x.f1.length c9))) ?hg ?ho ?hn ?hr ?_; (case ho => rfl); (case hg => rfl); (case hn => rfl); (case hr => first | (go_simp; done) | (go_simp; rfl)); intro w13 hw; have n0_ : Aside0 (Below w.heap.size w w13) := ⟨by rw [hw]; exact (below_set (below_set HB.out GEg12.out) GEg12.out)⟩; have n1_ : Aside0 (w13.heap[g12]? = some (.cells #[(.int .i64 x.f0), (.slice A9 x.f1.length c9)] 66 (0, 0))) := ⟨by rw [hw]; exact (blk_put (cs := #[(.int .i64 x.f0), .slice none 0 0]) (blk_put (cs := #[.int .i64 0, .slice none 0 0]) BKg12.out 0 (.int .i64 x.f0) rfl) 1 (.slice A9 x.f1.length c9) rfl)⟩; have n2_ : Aside0 (w13.heap[g3]? = some (.cells #[.slice A0 l0.length c0] 40 (0, 0))) := ⟨by rw [hw]; exact (blk_far (p := ⟨g12, 1, none⟩) (blk_far (p := ⟨g12, 0, none⟩) BKg3.out Ng3_g12.out (.int .i64 x.f0)) Ng3_g12.out (.slice A9 x.f1.length c9))⟩; have n3_ : Aside0 (w13.heap[g6]? = some (.cells #[.slice none 0 0] 40 (0, 0))) := ⟨by rw [hw]; exact (blk_far (p := ⟨g12, 1, none⟩) (blk_far (p := ⟨g12, 0, none⟩) BKg6.out Ng6_g12.out (.int .i64 x.f0)) Ng6_g12.out (.slice A9 x.f1.length c9))⟩; have n4_ : Aside0 (Kd.S (Kd.slice 5 (Kd.int .u8)) 62 w13 w.heap.size (fun _ => True) (.slice (some ⟨gl, 0, none⟩) 512 capl) l') := ⟨by rw [hw]; exact (Kd.S_set (Kd.S_set HO.out BKg12.out (by decide) 0 (.int .i64 x.f0)) (blk_put (cs := #[.int .i64 0, .slice none 0 0]) BKg12.out 0 (.int .i64 x.f0) rfl) (by decide) 1 (.slice A9 x.f1.length c9))⟩; clear HB BKg12 BKg3 BKg6 HO hw; have HB := n0_; have BKg12 := n1_; have BKg3 := n2_; have BKg6 := n3_; have HO := n4_; clear n0_ n1_ n2_ n3_ n4_; have hcg12_0_w13 : w13.cell? ⟨g12, 0, none⟩ = some ((.int .i64 x.f0)) := (blk_cell BKg12.out 0).trans rfl; have hfg12_0_w13 := blk_frozen BKg12.out 0; have hcg12_1_w13 : w13.cell? ⟨g12, 1, none⟩ = some ((.slice A9 x.f1.length c9)) := (blk_cell BKg12.out 1).trans rfl; have hfg12_1_w13 := blk_frozen BKg12.out 1; have hcg6_0_w13 : w13.cell? ⟨g6, 0, none⟩ = some (.slice none 0 0) := (blk_cell BKg6.out 0).trans rfl; have hfg6_0_w13 := blk_frozen BKg6.out 0))
            have p0 : 0 ≤ x.f0 := HG.out.1
            have p1 : x.f0 < ((512 : Nat) : Int) := HG.out.2.1
            obtain ⟨oki, csl, hcl, hM, hcc, hfr, hoki, hH⟩ := Kd.S_elem HO.out [] x.f0 p0 p1
            obtain ⟨ve, rfl, hR⟩ := hM
            obtain ⟨z, hz⟩ : ∃ z, l'.getD x.f0.toNat [] = z := ⟨_, rfl⟩
            rw [hz] at hR
            have hzl : z.length = 512 := by rw [← hz]; exact HF.out.2 _ (by omega)
            obtain ⟨ge, cape, e3, _, _, _⟩ := Kd.R_form hR (by rw [hzl]; decide)
            rw [hzl] at e3
            subst e3
            have hx := hcc 0 _ rfl
            have hf := hfr 0
            simp only [show ((Kd.slice 5 (Kd.int .u8))).sz = 1 from rfl, Nat.mul_one, Nat.add_zero] at hx hf
            have HRR := Aside0.mk hR
            have HH := Aside0.mk hH
            have HZZ := Aside0.mk hz
            have HZL := Aside0.mk hzl
            have HTK := Aside0.mk (show Kd.C (Kd.int .u8) w13 A9 0 (x.f1.take 0) by
              have h9 := Kd.C_take (m := 0) (Kd.C_below HX.out HB.out) (by rw [HG.out.2.2]; exact HNL.out)
              rwa [show (x.f1.take 0).length = 0 by rw [List.length_take, HG.out.2.2]; exact Nat.min_eq_left HNL.out] at h9)
            have r0 : (0 ≤ (c9 : Int)) := by have := HCX.out; have := HG.out.2.2; have := HNL.out; omega
            have r1 : (0 : Int) ≤ 0 := by omega
            have p2 : x.f0 < 512 := p1
            replace p0 := eq_true p0
            replace p1 := eq_true p1
            replace p2 := eq_true p2
            replace r0 := eq_true r0
            replace r1 := eq_true r1
            clear hR hH hcc hfr hcl hz hzl hoki
            go_region_law (refine R_copy_step (enc := fun x => .int .u8 x) (h1 := fun _ => rfl) 0 (w0 := w) w.heap.size rfl (.tmp 71) (.tmp 77) 62 62 5 rfl Try.underlying62 rfl (.slice (some ⟨ge, 0, none⟩) 512 cape) z (x.f1.take 0) A9 0 c9 oki (by simp [Act.eval, Act.put]) (by simp [Act.eval, Act.put]) (by (with_reducible repeat (first | apply Kd.R_drewN | apply Kd.R_drew)); exact HRR.out) (by (with_reducible repeat (first | apply Kd.C_drewN | apply Kd.C_drew)); exact HTK.out) (by repeat (first | (with_reducible first | exact HB.out | apply below_alloc | apply pw_below_drewN | apply below_drew1) | exact HB.out)) (below_size (by repeat (first | (with_reducible first | exact HB.out | apply below_alloc | apply pw_below_drewN | apply below_drew1) | exact HB.out))) ?_; intro w19 hrow hb2 hg2; (have HK := Aside0.mk (show Kept w13 w19 (fun k => some k = (Value.slice (some ⟨ge, 0, none⟩) 512 cape).ownBlock) from ⟨by have h9 := hg2.size; exact h9, fun k hlt hn => hg2.block k hlt hn⟩)); (have n0_ := Aside0.mk (Kd.H_back (Kd.H_kept HH.out HK.out (fun k _ hn hs => hn (HRR.out.1 k hs.symm))) (Kd.M_row hrow) (fun _ h => h))); (have n1_ := Aside0.mk hb2); (have n2_ := Aside0.mk ((HK.out.2 g3 (blk_lt BKg3.out) (Kd.R_ne HRR.out BKg3.out (by decide))).trans BKg3.out)); (have n3_ := Aside0.mk ((HK.out.2 g6 (blk_lt BKg6.out) (Kd.R_ne HRR.out BKg6.out (by decide))).trans BKg6.out)); clear hrow hb2 hg2 HK)
            all_goals go_wp2
            all_goals
              go_roundw
              case rel => exact ⟨n, i + 1, putW l' x 0, congrArg (Value.int .i64) HW.out, ⟨by have := HI.out; omega⟩, ⟨fits_put HF.out HG.out.2.2 HNL.out⟩, ⟨by rw [← HCR.out, crash_step cs ws i HIN.out l', HXX.out, HNN.out]⟩, ⟨by have h := n0_.out; rw [copied x.f1 z 0 HZL.out HNL.out, ← HZZ.out] at h; exact h⟩, n2_, n3_, n1_⟩
              case measure => rw [HW.out]; have := HIN.out; have := HLEN.out; show 1048576 - ((i + 1 : Nat) : Int).toNat < 1048576 - ((i : Nat) : Int).toNat; omega
end Go.Proofs.Ytaicfmmgmblmiaa.QFnExactDiskCrash
