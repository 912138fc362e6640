/- Proved: what the two closures of RowValues do ('next', 'varint'): the byte or the number that they hand back, and where the reader stands then. No conditions but bounds. -/
import Derived.Test.YtaicfmmgmblmiaaDoorQFnExactRowValuesx0
namespace Go.Proofs.YtaicfmmgmblmiaaDoor.QFnExactRowValues
open Go.RowKit Go.Proofs.YtaicfmmgmblmiaaDoorW.PrintWords Go.Proofs.YtaicfmmgmblmiaaDoorW.PrintLast Go.Proofs.YtaicfmmgmblmiaaDoorW.PrintMore Go.Proofs.YtaicfmmgmblmiaaDoorExt
/-- What 'next' hands back. -/
def nx (bs : List Int) (x : Int) : Int := if x < bs.length then rd bs x else 0
theorem grown_drewN (w : World) (n : Nat) (r : Option Nat) : w.grownBy (w.drewN n) r := ⟨rfl, rfl, rfl, Nat.le_refl _, fun _ _ _ => rfl⟩
theorem grown_drew {w w' : World} {r : Option Nat} (h : w.grownBy w' r) : w.grownBy w'.drew r := ⟨h.os, h.tape, h.output, h.size, h.block⟩
theorem grown_drewN' {w w' : World} {r : Option Nat} (h : w.grownBy w' r) (n : Nat) : w.grownBy (w'.drewN n) r := ⟨h.os, h.tape, h.output, h.size, h.block⟩
theorem grown_trans {w w1 w2 : World} {r : Option Nat} (h : w.grownBy w1 r) (h' : w1.grownBy w2 r) : w.grownBy w2 r :=
  ⟨h'.os.trans h.os, h'.tape.trans h.tape, h'.output.trans h.output, Nat.le_trans h.size h'.size, fun k hk hne => (h'.block k (Nat.lt_of_lt_of_le hk h.size) hne).trans (h.block k hk hne)⟩
theorem setCell_os (w : World) (p : Addr) (u : Value) : (w.setCell p u).os = w.os := by unfold World.setCell; split <;> rfl
theorem setCell_tape (w : World) (p : Addr) (u : Value) : (w.setCell p u).tape = w.tape := by unfold World.setCell; split <;> rfl
theorem setCell_output (w : World) (p : Addr) (u : Value) : (w.setCell p u).output = w.output := by unfold World.setCell; split <;> rfl
theorem setCell_size (w : World) (p : Addr) (u : Value) : (w.setCell p u).heap.size = w.heap.size := by unfold World.setCell; split <;> simp
theorem grown_set {w w' : World} {g : Nat} (h : w.grownBy w' (some g)) (i : Nat) (u : Value) : w.grownBy (w'.setCell ⟨g, i, none⟩ u) (some g) := by
  refine ⟨by rw [← h.os]; exact setCell_os _ _ _, by rw [← h.tape]; exact setCell_tape _ _ _, by rw [← h.output]; exact setCell_output _ _ _, ?_, fun k hk hne => ?_⟩
  · have := setCell_size w' ⟨g, i, none⟩ u
    have := h.size
    omega
  · exact (Below.heap_setCell w' ⟨g, i, none⟩ u k (fun e => hne (by rw [e]))).trans (h.block k hk hne)
set_option maxHeartbeats 4000000 in
set_option maxRecDepth 100000 in
theorem next_calls (gi gb : Nat) (x : Int) (A : Option Addr) (c : Nat) (bs : List Int) (w : World) (hi : w.heap[gi]? = some (.cells #[.int .i64 x] 3 (0, 0))) (hb : w.heap[gb]? = some (.cells #[.slice A bs.length c] 33 (0, 0)))
    (hr : Kd.C (Kd.int .u8) w A bs.length bs) (h0 : 0 ≤ x) (h1 : x ≤ 1000000000000) :
    Calls Tryd.prog 39 #[.pointer (some ⟨gi, 0, none⟩), .pointer (some ⟨gb, 0, none⟩)] w fun e w' => e = .returned (.int .u8 (nx bs x)) ∧ w'.heap[gi]? = some (.cells #[.int .i64 (x + 1)] 3 (0, 0)) ∧ w.grownBy w' (some gi) := by
  have HR := Aside0.mk hr
  have HI := Aside0.mk hi
  have HB := Aside0.mk (And.intro h0 h1)
  have hci : w.cell? ⟨gi, 0, none⟩ = some (.int .i64 x) := by rw [blk_cell hi]; rfl
  have hfi : w.frozen? ⟨gi, 0, none⟩ = false := blk_frozen hi 0
  have hcb : w.cell? ⟨gb, 0, none⟩ = some (.slice A bs.length c) := by rw [blk_cell hb]; rfl
  have hw : wrap64 (x + 1) = x + 1 := by unfold wrap64; omega
  have HW := Aside0.mk hw
  clear hr hi hb h1 hw
  by_cases hlt : x < (bs.length : Int)
  · have hb0 : decide (x < (bs.length : Int)) = true := decide_eq_true hlt
    have HN : Aside0 (nx bs x = rd bs x) := ⟨if_pos hlt⟩
    obtain ⟨ad, e1, hx1⟩ := Kd.at_int HR.out x h0 hlt
    cases e1
    have HLT := Aside0.mk hlt
    replace h0 := eq_true h0
    replace hlt := eq_true hlt
    go_enter Tryd.func39, Tryd.ntmps39
    go_wp2
    go_ret
    exact ⟨by rw [HN.out]; rfl, by rw [HW.out]; exact blk_set HI.out 0 _, grown_set (World.grownBy.refl w _) 0 _⟩
  · have hb0 : decide (x < (bs.length : Int)) = false := decide_eq_false hlt
    have HN : Aside0 (nx bs x = 0) := ⟨if_neg hlt⟩
    clear hlt
    replace h0 := eq_true h0
    go_enter Tryd.func39, Tryd.ntmps39
    go_wp2
    go_ret
    exact ⟨by rw [HN.out]; rfl, by rw [HW.out]; exact blk_set HI.out 0 _, grown_set (World.grownBy.refl w _) 0 _⟩

theorem C_grown {α : Type} {d : Kd α} {w w' : World} {g : Nat} {A : Option Addr} {n : Nat} {xs : List α} (h : d.C w A n xs) (hg : w.grownBy w' (some g)) (hA : ∀ ad, A = some ad → ad.block ≠ g) (hK : ∀ x cs, d.K w x cs → d.K w' x cs) : d.C w' A n xs := by
  refine ⟨h.1, h.2.1, fun hn => ?_⟩
  obtain ⟨ad, e, hc⟩ := h.2.2 hn
  refine ⟨ad, e, fun j p hj => ?_⟩
  obtain ⟨c, h1, h2, h3⟩ := hc j p hj
  refine ⟨c, h1, hK _ _ h2, fun i u hu => ?_⟩
  have h4 := h3 i u hu
  have hb : (ad.add (j * d.sz + i)).block = ad.block := add_block _ _
  have hlt := World.block_lt_of_cell? w _ h4
  rw [World.cell?_of_block (hg.block _ hlt (fun e' => hA ad e (by rw [← hb]; exact Option.some.inj e')))]
  exact h4
/-- One seven of bits, set at s. -/
def seven (c s v : Int) : Int := Go.bits .or .u64 v (IntKind.u64.wrap (IntKind.u64.wrap (Go.bits .and .u8 c 127) * 2 ^ s.toNat))
/-- What 'varint' hands back, and where it leaves the reader. -/
def vr (bs : List Int) : Nat → Int → Int → Int → Int × Int
  | 0, x, _, v => (v, x)
  | f + 1, x, s, v => if nx bs x < 128 then (seven (nx bs x) s v, x + 1) else vr bs f (x + 1) (s + 7) (seven (nx bs x) s v)
set_option maxHeartbeats 4000000 in
set_option maxRecDepth 100000 in
theorem varint_calls (gi gb gn : Nat) (x : Int) (A : Option Addr) (c : Nat) (bs : List Int) (w : World) (hi : w.heap[gi]? = some (.cells #[.int .i64 x] 3 (0, 0))) (hb : w.heap[gb]? = some (.cells #[.slice A bs.length c] 33 (0, 0)))
    (hn : w.heap[gn]? = some (.cells #[.func (.func 39) #[] #[.pointer (some ⟨gi, 0, none⟩), .pointer (some ⟨gb, 0, none⟩)]] 64 (0, 0)))
    (hA : ∀ ad, A = some ad → ad.block ≠ gi) (hr : Kd.C (Kd.int .u8) w A bs.length bs) (h0 : 0 ≤ x) (h1 : x ≤ 100000000000) :
    Calls Tryd.prog 40 #[.pointer (some ⟨gn, 0, none⟩)] w fun e w' => e = .returned (.int .u64 (vr bs 10 x 0 0).1) ∧ w'.heap[gi]? = some (.cells #[.int .i64 (vr bs 10 x 0 0).2] 3 (0, 0)) ∧ w.grownBy w' (some gi) := by
  have HR := Aside0.mk hr
  have HI := Aside0.mk hi
  have HBB := Aside0.mk hb
  have HN := Aside0.mk hn
  have HA := Aside0.mk hA
  have HX := Aside0.mk (And.intro h0 h1)
  have ni : gb ≠ gi := blk_ne hb hi (by decide)
  have nn : gn ≠ gi := blk_ne hn hi (by decide)
  clear hr hi hb hn hA h0 h1
  have NI := Aside0.mk ni
  have NN := Aside0.mk nn
  clear ni nn
  go_enter Tryd.func40, Tryd.ntmps40
  go_wp2
  go_loopw [2, 3] (fun v2 v3 w' => ∃ (f : Nat) (y s v : Int), v3 = .int .i64 s ∧ v2 = .int .u64 v ∧ Aside0 (f ≤ 10 ∧ s = 70 - 7 * f ∧ x ≤ y ∧ y + f ≤ x + 10) ∧ Aside0 (vr bs f y s v = vr bs 10 x 0 0) ∧ Aside0 (w'.heap[gi]? = some (.cells #[.int .i64 y] 3 (0, 0))) ∧ Aside0 (w.grownBy w' (some gi))) (fun _ v3 _ => 70 - (intOf v3).toNat)
  case atStart => exact ⟨10, x, 0, 0, rfl, rfl, ⟨by omega, by omega, by omega, by omega⟩, ⟨rfl⟩, ⟨HI.out⟩, ⟨World.grownBy.refl w _⟩⟩
  case round =>
    obtain ⟨f, y, s, v, rfl, rfl, HF, HV, HY, HG⟩ := hrel
    have hcn : wr.cell? ⟨gn, 0, none⟩ = some (.func (.func 39) #[] #[.pointer (some ⟨gi, 0, none⟩), .pointer (some ⟨gb, 0, none⟩)]) := by rw [blk_cell (blk_grown HN.out HG.out (fun e => NN.out (Option.some.inj e)))]; rfl
    have hbb := blk_grown HBB.out HG.out (fun e => NI.out (Option.some.inj e))
    have HB2 := Aside0.mk hbb
    clear hbb
    have hrc : Kd.C (Kd.int .u8) wr A bs.length bs := C_grown HR.out HG.out HA.out (fun _ _ h => h)
    have HRC := Aside0.mk hrc
    clear hrc
    cases f with
    | zero =>
      have hs : s = 70 := by have := HF.out.2.1; omega
      subst hs
      go_wp2
      go_ret
      exact ⟨by rw [← HV.out]; rfl, by rw [← HV.out]; exact HY.out, HG.out⟩
    | succ f =>
      have hs : decide (s < 70) = true := decide_eq_true (by have := HF.out; omega)
      have hq0 := HF.out
      by_cases hc : nx bs y < 128
      · have hcb : decide (nx bs y < 128) = true := decide_eq_true hc
        have HV2 : Aside0 ((seven (nx bs y) s v, y + 1) = vr bs 10 x 0 0) := ⟨by rw [← HV.out]; unfold vr; rw [if_pos hc]⟩
        have s0 : (0 ≤ s) = True := eq_true (by omega)
        have s1 : (s ≤ 64) = True := eq_true (by omega)
        clear hq0 hc
        go_wp2_with (go_at_call 39; refine (next_calls gi gb y A c bs _ HY.out HB2.out HRC.out (by have := HF.out; have := HX.out; omega) (by have := HF.out; have := HX.out; omega)).mono ?_; rintro e w' ⟨rfl, hy2, hg2⟩; have HY2 := Aside0.mk hy2; have HG2 := Aside0.mk hg2; clear hy2 hg2)
        go_ret
        exact ⟨by rw [← HV2.out]; rfl, by rw [← HV2.out]; exact HY2.out, grown_trans HG.out HG2.out⟩
      · have hcb : decide (nx bs y < 128) = false := decide_eq_false hc
        have HV2 : Aside0 (vr bs f (y + 1) (s + 7) (seven (nx bs y) s v) = vr bs 10 x 0 0) := ⟨by rw [← HV.out]; conv => rhs; unfold vr; rw [if_neg hc]⟩
        have s0 : (0 ≤ s) = True := eq_true (by omega)
        have s1 : (s ≤ 64) = True := eq_true (by omega)
        clear hq0 hc
        go_wp2_with (go_at_call 39; refine (next_calls gi gb y A c bs _ HY.out HB2.out HRC.out (by have := HF.out; have := HX.out; omega) (by have := HF.out; have := HX.out; omega)).mono ?_; rintro e w' ⟨rfl, hy2, hg2⟩; have HY2 := Aside0.mk hy2; have HG2 := Aside0.mk hg2; clear hy2 hg2)
        go_roundw
        case rel => exact ⟨f, y + 1, s + 7, _, by have := HF.out; first | rfl | (unfold wrap64; congr 1; omega), rfl, ⟨by have := HF.out; omega, by have := HF.out; omega, by have := HF.out; omega, by have := HF.out; omega⟩, HV2, HY2, ⟨grown_trans HG.out HG2.out⟩⟩
        case measure =>
          have h7 := HF.out
          have hw : wrap64 (s + 7) = s + 7 := by unfold wrap64; omega
          simp [intOf, hw]
          omega
end Go.Proofs.YtaicfmmgmblmiaaDoor.QFnExactRowValues
