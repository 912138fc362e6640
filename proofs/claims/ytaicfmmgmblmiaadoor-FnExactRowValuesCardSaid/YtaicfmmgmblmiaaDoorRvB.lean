import Derived.Test.YtaicfmmgmblmiaaDoorRvA
import Derived.Test.YtaicfmmgmblmiaaDoorQFnExactRowValuesx2
namespace Go.Proofs.YtaicfmmgmblmiaaDoor.QFnExactRowValues
open Go.RowKit Go.Proofs.YtaicfmmgmblmiaaDoorW.PrintWords Go.Proofs.YtaicfmmgmblmiaaDoorW.PrintLast Go.Proofs.YtaicfmmgmblmiaaDoorW.PrintMore Go.Proofs.YtaicfmmgmblmiaaDoorExt
theorem run_store_func (P : Program) (w : World) (a : Addr) (f : Fn) (ts cs : Array Value) (m : Mode) : (store a (.func f ts cs) m).run P w = stored P w a (.func f ts cs) m := run_store P w a _ m rfl
attribute [local go_sem] run_store_func
/-- One value, read at x: and where the reader stands then. -/
def num (u : Int) : Int := Go.bits .xor .i64 (u / 2) (wrap64 (-(wrap64 (Go.bits .and .u64 u 1))))
def rvItem (bs : List Int) (x : Int) : Option (S25 × Int) :=
  if wrap64 (nx bs x) = 0 then some (⟨wrap64 (nx bs x), 0, ⟨#[]⟩⟩, x + 1)
  else if wrap64 (nx bs x) = 1 ∨ wrap64 (nx bs x) = 2 ∨ wrap64 (nx bs x) = 5 then some (⟨wrap64 (nx bs x), num (vr bs 10 (x + 1) 0 0).1, ⟨#[]⟩⟩, (vr bs 10 (x + 1) 0 0).2)
  else if wrap64 (nx bs x) = 3 then (if (vr bs 10 (x + 1) 0 0).1 > bs.length ∨ (vr bs 10 (x + 1) 0 0).2 + (vr bs 10 (x + 1) 0 0).1 > bs.length then none
    else some (⟨wrap64 (nx bs x), 0, strOfNums ((bs.drop (vr bs 10 (x + 1) 0 0).2.toNat).take (vr bs 10 (x + 1) 0 0).1.toNat)⟩, (vr bs 10 (x + 1) 0 0).2 + (vr bs 10 (x + 1) 0 0).1))
  else if wrap64 (nx bs x) = 4 then some (⟨wrap64 (nx bs x), wrap64 (nx bs (x + 1)), ⟨#[]⟩⟩, x + 2)
  else none
def rvGo (bs : List Int) : Nat → Int → List S25 → Option (List S25)
  | 0, _, out => some out
  | n + 1, x, out => (rvItem bs x).bind fun r => rvGo bs n r.2 (out ++ [r.1])
theorem blk_new' (w : World) (o : Obj) (g : Nat) (hg : g = w.heap.size) : (w.alloc o).heap[g]? = some o := by subst hg; exact blk_new w o
theorem size_alloc (w : World) (o : Obj) : (w.alloc o).heap.size = w.heap.size + 1 := by show (w.heap.push o).size = _; simp
theorem own_ne {w : World} {base : Nat} {ok : Nat → Prop} {v : Value} {xs : List S25} {g t : Nat} {cs : Array Value} (h : Kd.R k25 25 w base ok v xs) (hb : w.heap[g]? = some (.cells cs t (0, 0))) (ht : t ≠ 25) : some g ≠ v.ownBlock := by
  intro e
  obtain ⟨cells, hc⟩ := Kd.R_typed h g e.symm
  rw [hb] at hc
  injection hc with hc
  injection hc with _ h2 _
  exact ht h2
theorem R_over_box {w w1 : World} {base : Nat} {ok : Nat → Prop} {v : Value} {xs : List S25} {gi : Nat} {cs : Array Value} (h : Kd.R k25 25 w base ok v xs) (hi : w.heap[gi]? = some (.cells cs 3 (0, 0))) (hg : w.grownBy w1 (some gi)) : Kd.R k25 25 w1 base ok v xs :=
  Kd.R_mono (Kd.R_grown (Kd.R_types h hi (by decide)) hg (fun k hk e => hk.2 (Option.some.inj e))) (fun _ hk => hk.1)
theorem seven_range (c s v : Int) : 0 ≤ seven c s v ∧ seven c s v < 18446744073709551616 := by
  unfold seven
  generalize IntKind.u64.wrap (IntKind.u64.wrap (Go.bits .and .u8 c 127) * 2 ^ s.toNat) = p
  show 0 ≤ IntKind.u64.wrap ((BitVec.ofInt 64 v ||| BitVec.ofInt 64 p).toNat : Int) ∧ IntKind.u64.wrap ((BitVec.ofInt 64 v ||| BitVec.ofInt 64 p).toNat : Int) < 18446744073709551616
  have h : ∀ z : Int, IntKind.u64.wrap z = z % 18446744073709551616 := fun z => by simp [IntKind.wrap, IntKind.signed, IntKind.bits]
  rw [h]
  omega
theorem vr_range (bs : List Int) : ∀ (f : Nat) (x s v : Int), 0 ≤ v → v < 18446744073709551616 → (0 ≤ (vr bs f x s v).1 ∧ (vr bs f x s v).1 < 18446744073709551616) ∧ x ≤ (vr bs f x s v).2 ∧ (vr bs f x s v).2 ≤ x + f
  | 0, x, s, v, h0, h1 => ⟨⟨h0, h1⟩, Int.le_refl _, by show x ≤ x + ((0 : Nat) : Int); omega⟩
  | f + 1, x, s, v, h0, h1 => by
    have hs := seven_range (nx bs x) s v
    unfold vr
    by_cases c : nx bs x < 128
    · rw [if_pos c]
      exact ⟨hs, by show x ≤ x + 1; omega, by show x + 1 ≤ x + ((f + 1 : Nat) : Int); omega⟩
    · rw [if_neg c]
      have h := vr_range bs f (x + 1) (s + 7) (seven (nx bs x) s v) hs.1 hs.2
      exact ⟨h.1, by omega, by omega⟩
theorem varint_calls' (gi gb gn : Nat) (x : Int) (A : Option Addr) (c : Nat) (bs : List Int) (u y : Int) (w : World) (huy : vr bs 10 x 0 0 = (u, y)) (hi : w.heap[gi]? = some (.cells #[.int .i64 x] 3 (0, 0))) (hb : w.heap[gb]? = some (.cells #[.slice A bs.length c] 33 (0, 0)))
    (hn : w.heap[gn]? = some (.cells #[.func (.func 39) #[] #[.pointer (some ⟨gi, 0, none⟩), .pointer (some ⟨gb, 0, none⟩)]] 64 (0, 0)))
    (hA : ∀ ad, A = some ad → ad.block ≠ gi) (hr : Kd.C (Kd.int .u8) w A bs.length bs) (h0 : 0 ≤ x) (h1 : x ≤ 100000000000) :
    Calls Tryd.prog 40 #[.pointer (some ⟨gn, 0, none⟩)] w fun e w' => e = .returned (.int .u64 u) ∧ w'.heap[gi]? = some (.cells #[.int .i64 y] 3 (0, 0)) ∧ w.grownBy w' (some gi) := by
  have h := varint_calls gi gb gn x A c bs w hi hb hn hA hr h0 h1
  rw [huy] at h
  exact h
theorem below_gi {w W W' : World} {g : Nat} (h : Below w.heap.size w W) (hg : W.grownBy W' (some g)) (hge : w.heap.size ≤ g) : Below w.heap.size w W' := h.grown hg h.size (fun k hk => by have := Option.some.inj hk; omega)
/-- What RowValues hands back, the values read. -/
def fin (k : Nat) (bs : List Int) : Option (List S25) → Option (List S25 × Int)
  | none => some ([], 28)
  | some out => (impl_RowBytes.f k out).bind fun r => if r.2 = 0 then (bytes_Equal.f bs r.1).bind fun e => if e = true then some (out, 0) else some ([], 28) else some ([], 28)
set_option maxHeartbeats 4000000 in
set_option maxRecDepth 100000 in
theorem walk_main (k : Nat) (A : Option Addr) (c : Nat) (bs : List Int) (w : World) (hr : Kd.C (Kd.int .u8) w A bs.length bs) (h0 : 0 < bs.length) (hbig : bs.length ≤ 4000) (h16 : rd bs 0 ≤ 16) (hz : 0 ≤ rd bs 0) (o : Option (List S25)) (ho : rvGo bs (rd bs 0).toNat 1 [] = o) (hlc : bs.length ≤ c) (hT : Tabs w) (R1 : List S25) (R2 : Int) (hfin : fin k bs o = some (R1, R2)) :
    Calls Tryd.prog 22 #[.slice A bs.length c] w fun e w' => ∃ v0_ : Value, e = .returned (.tuple #[v0_, .int .i64 R2]) ∧ Kd.R k25 25 w' w.heap.size (fun _ => True) v0_ R1 ∧ Below w.heap.size w w' := by
  have HT := Aside0.mk hT
  have HFIN := Aside0.mk hfin
  have HLC := Aside0.mk hlc
  clear hT hfin hlc
  have HR := Aside0.mk hr
  have HO := Aside0.mk ho
  have HN := Aside0.mk hz
  have e1 : ((bs.length : Int) == 0) = false := beq_eq_false_iff_ne.mpr (by omega)
  have e2 : decide ((bs.length : Int) > 4000) = false := decide_eq_false (by omega)
  have e3 : decide (4000 < (bs.length : Int)) = false := decide_eq_false (by omega)
  have hw : wrap64 (rd bs 0) = rd bs 0 := by unfold wrap64; omega
  have e4 : decide (wrap64 (rd bs 0) > 16) = false := decide_eq_false (by omega)
  have e5 : decide (16 < wrap64 (rd bs 0)) = false := decide_eq_false (by omega)
  have p0 : (0 : Int) ≤ 0 := by omega
  have q0 : (0 : Int) < (bs.length : Int) := by omega
  obtain ⟨ad, e6, hx⟩ := Kd.at_int (Kd.C_below HR.out (below_alloc (Below.refl _ _) (.cells #[.slice A bs.length c] 33))) 0 p0 q0
  obtain ⟨ad', e7, hxw⟩ := Kd.at_int HR.out 0 p0 q0
  obtain ⟨ad2, e8, hx2⟩ := Kd.at_int (Kd.C_below HR.out (below_alloc (below_alloc (below_alloc (Below.refl _ _) (.cells #[.slice A bs.length c] 33)) (.cells #[.int .i64 1] 3)) (.cells #[.func (.func 39) #[] #[.pointer (some ⟨w.heap.size + 1, 0, none⟩), .pointer (some ⟨w.heap.size, 0, none⟩)]] 64))) 0 p0 q0
  rw [e6] at e8
  obtain rfl := Option.some.inj e8
  rw [e6] at e7
  obtain rfl := Option.some.inj e7
  cases e6
  have q0' := eq_true q0
  have q1 : (0 < bs.length) = True := eq_true h0
  have q2 : (bs.length = 0) = False := eq_false (by omega)
  have q3 : (bs = []) = False := eq_false (by intro e; rw [e] at h0; exact absurd h0 (by decide))
  have HL := Aside0.mk hbig
  have H16 := Aside0.mk h16
  have HW := Aside0.mk hw
  have hadlt : ad.block < w.heap.size := World.block_lt_of_cell? w _ hxw
  have HAD := Aside0.mk hadlt
  rw [show (0 : Int).toNat = 0 from rfl, Addr.add_zero'] at hx hx2
  clear hr ho hz h0 hbig h16 p0 q0 hadlt hxw e7 e8 hw
  go_enter Tryd.func22, Tryd.ntmps22
  go_wp2
  go_loopw [7, 34] (fun v7 v34 w' => ∃ (n : Nat) (x : Int) (out : List S25), v34 = .int .i64 (rd bs 0 - n) ∧ Aside0 (n ≤ rd bs 0 ∧ 1 ≤ x ∧ x + 11 * n ≤ 4000 + 11 * 16 + 1) ∧ Aside0 (rvGo bs n x out = o) ∧ Aside0 (out.length + n ≤ 16) ∧
      Aside0 (w'.heap[w.heap.size + 1]? = some (.cells #[.int .i64 x] 3 (0, 0))) ∧ Aside0 (w'.heap[w.heap.size]? = some (.cells #[.slice (some ad) bs.length c] 33 (0, 0))) ∧
      Aside0 (w'.heap[w.heap.size + 1 + 1]? = some (.cells #[.func (.func 39) #[] #[.pointer (some ⟨w.heap.size + 1, 0, none⟩), .pointer (some ⟨w.heap.size, 0, none⟩)]] 64 (0, 0))) ∧
      Aside0 (Kd.R k25 25 w' w.heap.size (fun _ => True) v7 out) ∧ Aside0 (Below w.heap.size w w')) (fun _ v34 _ => 16 - (intOf v34).toNat)
  case atStart => exact ⟨(rd bs 0).toNat, 1, [], by first | rfl | (congr 1; rw [HW.out]; have := HN.out; omega) | (congr 1; have := HN.out; omega), ⟨by have := HN.out; omega, by omega, by have := HN.out; have := H16.out; omega⟩, HO, ⟨by have := H16.out; simp; omega⟩,
    ⟨blk_alloc (blk_new' _ _ _ (by rw [size_alloc])) _⟩, ⟨blk_alloc (blk_alloc (blk_new _ _) _) _⟩, ⟨blk_new' _ _ _ (by rw [size_alloc, size_alloc])⟩, ⟨Kd.R_nil _ _ _ _ _⟩, ⟨below_alloc (below_alloc (below_alloc (Below.refl _ _) _) _) _⟩⟩
  case round =>
    obtain ⟨n, x, out, rfl, HB, HG, HL2, HI, HBB, HF, HOUT, HBEL⟩ := hrel
    cases n with
    | zero =>
      have hc : decide (rd bs 0 - ((0 : Nat) : Int) < wrap64 (rd bs 0)) = false := decide_eq_false (by rw [HW.out]; omega)
      have HG0 : Aside0 (some out = o) := HG
      have hc3 : decide (rd bs 0 < wrap64 (rd bs 0)) = false := decide_eq_false (by rw [HW.out]; omega)
      obtain ⟨A1, c1, ev⟩ := Kd.R_slice HOUT.out
      subst ev
      have hfn := HFIN.out
      rw [← HG0.out] at hfn
      replace hfn : (impl_RowBytes.f k out).bind (fun r => if r.2 = 0 then (bytes_Equal.f bs r.1).bind fun e => if e = true then some (out, 0) else some ([], 28) else some ([], 28)) = some (R1, R2) := hfn
      obtain ⟨⟨q1, q2⟩, hrb, H⟩ := Option.bind_eq_some_iff.mp hfn
      have HRB := Aside0.mk hrb
      clear hfn hrb
      have hcw : wr.cell? ⟨w.heap.size, 0, none⟩ = some (.slice (some ad) bs.length c) := (blk_cell HBB.out 0).trans rfl
      by_cases hq : q2 = 0
      · replace H : (if q2 = 0 then (bytes_Equal.f bs q1).bind fun e => if e = true then some (out, 0) else some ([], 28) else some ([], 28)) = some (R1, R2) := H
        rw [if_pos hq] at H
        obtain ⟨eq, heq, H⟩ := Option.bind_eq_some_iff.mp H
        have HEQ := Aside0.mk heq
        have hqb : (q2 != 0) = false := bne_eq_false_iff_eq.mpr hq
        clear heq hq
        cases eq with
        | true =>
          replace H : some (out, (0 : Int)) = some (R1, R2) := H
          obtain ⟨h1, h2⟩ := Prod.mk.inj (Option.some.inj H)
          have H1 := Aside0.mk h1
          have H2 := Aside0.mk h2
          clear H h1 h2
          go_wp2_with (first | (go_at_call 14; refine (impl_RowBytes.calls k A1 c1 out q1 q2 _ (Tabs.below HT.out HBEL.out) (Kd.R_reads' HOUT.out).2.2 (Kd.R_reads' HOUT.out).2.1 HRB.out).mono ?_; rintro e wc ⟨vv, rfl, hvo, hvb⟩; obtain ⟨A2, c2, ev2⟩ := Kd.R_slice hvo; subst ev2; have HVO := Aside0.mk hvo; have HVB := Aside0.mk hvb; have hcw2 : wc.cell? ⟨w.heap.size, 0, none⟩ = some (.slice (some ad) bs.length c) := (blk_cell (blk_below HBB.out hvb) 0).trans rfl; clear hvo hvb) | (go_at_call 41; refine (bytes_Equal.calls (some ad) c bs A2 c2 q1 _ _ (Kd.C_below (Kd.C_below HR.out HBEL.out) HVB.out) HLC.out (Kd.R_reads' HVO.out).2.2 (Kd.R_reads' HVO.out).2.1 HEQ.out).mono ?_; rintro e wd ⟨rfl, hd⟩; have HD := Aside0.mk hd; clear hd))
          go_ret2
          exact ⟨_, by rw [← H2.out]; rfl, by rw [← H1.out]; exact Kd.R_below (Kd.R_below HOUT.out HVB.out) HD.out.below, below_step (below_step HBEL.out HVB.out) HD.out.below⟩
        | false =>
          replace H : some ([], (28 : Int)) = some (R1, R2) := H
          obtain ⟨h1, h2⟩ := Prod.mk.inj (Option.some.inj H)
          have H1 := Aside0.mk h1
          have H2 := Aside0.mk h2
          clear H h1 h2
          go_wp2_with (first | (go_at_call 14; refine (impl_RowBytes.calls k A1 c1 out q1 q2 _ (Tabs.below HT.out HBEL.out) (Kd.R_reads' HOUT.out).2.2 (Kd.R_reads' HOUT.out).2.1 HRB.out).mono ?_; rintro e wc ⟨vv, rfl, hvo, hvb⟩; obtain ⟨A2, c2, ev2⟩ := Kd.R_slice hvo; subst ev2; have HVO := Aside0.mk hvo; have HVB := Aside0.mk hvb; have hcw2 : wc.cell? ⟨w.heap.size, 0, none⟩ = some (.slice (some ad) bs.length c) := (blk_cell (blk_below HBB.out hvb) 0).trans rfl; clear hvo hvb) | (go_at_call 41; refine (bytes_Equal.calls (some ad) c bs A2 c2 q1 _ _ (Kd.C_below (Kd.C_below HR.out HBEL.out) HVB.out) HLC.out (Kd.R_reads' HVO.out).2.2 (Kd.R_reads' HVO.out).2.1 HEQ.out).mono ?_; rintro e wd ⟨rfl, hd⟩; have HD := Aside0.mk hd; clear hd))
          go_ret2
          exact ⟨.slice none 0 0, by rw [← H2.out]; rfl, by rw [← H1.out]; exact Kd.R_nil _ _ _ _ _, below_step (below_step HBEL.out HVB.out) HD.out.below⟩
      · replace H : (if q2 = 0 then (bytes_Equal.f bs q1).bind fun e => if e = true then some (out, 0) else some ([], 28) else some ([], 28)) = some (R1, R2) := H
        rw [if_neg hq] at H
        obtain ⟨h1, h2⟩ := Prod.mk.inj (Option.some.inj H)
        have H1 := Aside0.mk h1
        have H2 := Aside0.mk h2
        have hqb : (q2 != 0) = true := bne_iff_ne.mpr hq
        clear hq H h1 h2
        go_wp2_with (first | (go_at_call 14; refine (impl_RowBytes.calls k A1 c1 out q1 q2 _ (Tabs.below HT.out HBEL.out) (Kd.R_reads' HOUT.out).2.2 (Kd.R_reads' HOUT.out).2.1 HRB.out).mono ?_; rintro e wc ⟨vv, rfl, hvo, hvb⟩; obtain ⟨A2, c2, ev2⟩ := Kd.R_slice hvo; subst ev2; have HVO := Aside0.mk hvo; have HVB := Aside0.mk hvb; have hcw2 : wc.cell? ⟨w.heap.size, 0, none⟩ = some (.slice (some ad) bs.length c) := (blk_cell (blk_below HBB.out hvb) 0).trans rfl; clear hvo hvb))
        go_ret2
        exact ⟨.slice none 0 0, by rw [← H2.out]; rfl, by rw [← H1.out]; exact Kd.R_nil _ _ _ _ _, below_step HBEL.out HVB.out⟩
    | succ n =>
      have hc : decide (rd bs 0 - ((n + 1 : Nat) : Int) < wrap64 (rd bs 0)) = true := decide_eq_true (by rw [HW.out]; omega)
      have hc2 : decide (rd bs 0 - ((n : Int) + 1) < wrap64 (rd bs 0)) = true := decide_eq_true (by rw [HW.out]; omega)
      have hcf : wr.cell? ⟨w.heap.size + 1 + 1, 0, none⟩ = some (.func (.func 39) #[] #[.pointer (some ⟨w.heap.size + 1, 0, none⟩), .pointer (some ⟨w.heap.size, 0, none⟩)]) := by rw [blk_cell HF.out]; rfl
      have HRC : Aside0 (Kd.C (Kd.int .u8) wr (some ad) bs.length bs) := ⟨Kd.C_below HR.out HBEL.out⟩
      have hgr : ∀ {w' : World}, wr.grownBy w' (some (w.heap.size + 1)) → Below w.heap.size w w' := fun hg => HBEL.out.grown hg HBEL.out.size (fun k hk => by have := Option.some.inj hk; omega)
      have HGR := Aside0.mk @hgr
      clear hgr
      by_cases t0 : wrap64 (nx bs x) = 0
      · have t0b : (wrap64 (nx bs x) == 0) = true := beq_iff_eq.mpr t0
        have HIT : Aside0 (rvItem bs x = some (⟨wrap64 (nx bs x), 0, ⟨#[]⟩⟩, x + 1)) := ⟨by unfold rvItem; rw [if_pos t0]⟩
        have HG3 : Aside0 (rvGo bs n (x + 1) (out ++ [⟨wrap64 (nx bs x), 0, ⟨#[]⟩⟩]) = o) := ⟨by rw [← HG.out]; show _ = (rvItem bs x).bind _; rw [HIT.out]; rfl⟩
        clear t0
        go_wp2_with (first
          | (go_at_call 39; refine (next_calls (w.heap.size + 1) w.heap.size x (some ad) c bs _ HI.out HBB.out HRC.out (by have := HB.out; omega) (by have := HB.out; omega)).mono ?_; rintro e w' ⟨rfl, hy2, hg2⟩; have HI2 := Aside0.mk hy2; have HG2 := Aside0.mk hg2; clear hy2 hg2)
          | ((with_reducible refine gate_builtin (b := .append) (xs := #[.tmp 96, .tmp 98]) rfl ?_); at_builtin; refine Kd.R_append k25 (w0 := w) w.heap.size rfl (.tmp 96) (.tmp 98) 36 25 (.agg #[(.int .i64 0), (.int .i64 0), (.string ⟨#[]⟩)]) 32 rfl Tryd.underlying36 info25 rfl (by decide) (by omega) u7 out (⟨wrap64 (nx bs x), 0, ⟨#[]⟩⟩ : S25) [.int .i64 (wrap64 (nx bs x)), .int .i64 0, .string ⟨#[]⟩] (fun _ => True) (fun _ => False) rfl (by first | (go_simp; done) | (go_simp; rfl)) ?aP (fun _ hk => hk.elim) ?aF ?aO ?aB ?aS ?aL ?_; (case aP => exact k25_mkM _ _ _ (⟨wrap64 (nx bs x), 0, ⟨#[]⟩⟩ : S25)); (case aF => exact fun _ _ => trivial); (case aO => (repeat (apply Kd.R_alloc)); exact R_over_box HOUT.out HI.out HG2.out); (case aB => (repeat (apply below_alloc)); exact HGR.out HG2.out); (case aS => have h9 := (HGR.out HG2.out).size; simp only [size_alloc]; omega); (case aL => have := HL2.out; omega); intro v1 w2 ho hb hg hat))
        have a1 := own_ne HOUT.out HI.out (by decide)
        have a2 := own_ne HOUT.out HBB.out (by decide)
        have a3 := own_ne HOUT.out HF.out (by decide)
        go_roundw
        case rel => exact ⟨n, x + 1, out ++ [⟨wrap64 (nx bs x), 0, ⟨#[]⟩⟩], by have := HN.out; have := HB.out; have := H16.out; first | rfl | (unfold wrap64; congr 1; omega), ⟨by have := HB.out; omega, by have := HB.out; omega, by have := HB.out; omega⟩, HG3, ⟨by have := HL2.out; simp; omega⟩,
          ⟨blk_grown (blk_alloc HI2.out _) hg a1⟩, ⟨blk_grown (blk_alloc (blk_grown HBB.out HG2.out (fun e => by have := Option.some.inj e; omega)) _) hg a2⟩, ⟨blk_grown (blk_alloc (blk_grown HF.out HG2.out (fun e => by have := Option.some.inj e; omega)) _) hg a3⟩, ⟨ho⟩, ⟨hb⟩⟩
        case measure =>
          have h7 := HB.out
          have h8 := H16.out
          have hw9 : wrap64 (rd bs 0 - ((n : Int) + 1) + 1) = rd bs 0 - n := by unfold wrap64; omega
          simp [intOf, hw9]
          omega
      · by_cases t1 : wrap64 (nx bs x) = 1 ∨ wrap64 (nx bs x) = 2 ∨ wrap64 (nx bs x) = 5
        · have hvr := vr_range bs 10 (x + 1) 0 0 (by omega) (by omega)
          obtain ⟨u, y, huv⟩ : ∃ u y, vr bs 10 (x + 1) 0 0 = (u, y) := ⟨_, _, rfl⟩
          rw [huv] at hvr
          have HUV := Aside0.mk huv
          have hu0 : 0 ≤ u := hvr.1.1
          have hu1 : u < 18446744073709551616 := hvr.1.2
          have HY := Aside0.mk hvr.2
          clear hvr huv
          have HIT : Aside0 (rvItem bs x = some (⟨wrap64 (nx bs x), num u, ⟨#[]⟩⟩, y)) := ⟨by unfold rvItem; rw [if_neg t0, if_pos t1, HUV.out]⟩
          have HG3x : Aside0 (rvGo bs n y (out ++ [⟨wrap64 (nx bs x), num u, ⟨#[]⟩⟩]) = o) := ⟨by rw [← HG.out]; show _ = (rvItem bs x).bind _; rw [HIT.out]; rfl⟩
          rcases t1 with t1 | t1 | t1
          · have b0 : (wrap64 (nx bs x) == 0) = false := beq_eq_false_iff_ne.mpr (by omega)
            have b1 : (wrap64 (nx bs x) == 1) = true := beq_iff_eq.mpr (by omega)
            have b2 : (wrap64 (nx bs x) == 2) = false := beq_eq_false_iff_ne.mpr (by omega)
            have b5 : (wrap64 (nx bs x) == 5) = false := beq_eq_false_iff_ne.mpr (by omega)
            have b3 : (wrap64 (nx bs x) == 3) = false := beq_eq_false_iff_ne.mpr (by omega)
            clear t0 t1
            go_wp2_with (first | (go_at_call 39; refine (next_calls (w.heap.size + 1) w.heap.size x (some ad) c bs _ HI.out HBB.out HRC.out (by have := HB.out; omega) (by have := HB.out; omega)).mono ?_; rintro e wa ⟨rfl, hy2, hg2⟩; have HI2 := Aside0.mk hy2; have HG2 := Aside0.mk hg2; clear hy2 hg2) | (go_at_call 40; refine (varint_calls' (w.heap.size + 1) w.heap.size (w.heap.size + 1 + 1) (x + 1) (some ad) c bs u y _ HUV.out (blk_alloc HI2.out _) (blk_alloc (blk_grown HBB.out HG2.out (fun e => by have := Option.some.inj e; omega)) _) (blk_alloc (blk_grown HF.out HG2.out (fun e => by have := Option.some.inj e; omega)) _) (fun ad' e => by have := Option.some.inj e; subst this; have := HAD.out; omega) (Kd.C_below HR.out (below_alloc (HGR.out HG2.out) _)) (by have := HB.out; omega) (by have := HB.out; omega)).mono ?_; rintro e wb ⟨rfl, hy3, hg3⟩; have HI3 := Aside0.mk hy3; have HG3 := Aside0.mk hg3; have HBK : Aside0 (wb.heap[wa.heap.size]? = some (.cells #[.int .i64 (wrap64 (nx bs x)), .int .i64 0, .string ⟨#[]⟩] 25 (0, 0))) := ⟨blk_grown (blk_new' _ _ _ rfl) hg3 (fun e => by have := Option.some.inj e; have := blk_lt HI2.out; omega)⟩; have hcb0 := (blk_cell HBK.out 0).trans rfl; have hcb1 := (blk_cell HBK.out 1).trans rfl; have hcb2 := (blk_cell HBK.out 2).trans rfl; have hfb0 := blk_frozen HBK.out 0; have hfb1 := blk_frozen HBK.out 1; have hfb2 := blk_frozen HBK.out 2; clear hy3 hg3) | ((with_reducible refine gate_builtin (b := .append) (xs := #[.tmp 96, .tmp 98]) rfl ?_); at_builtin; refine Kd.R_append k25 (w0 := w) w.heap.size rfl (.tmp 96) (.tmp 98) 36 25 (.agg #[(.int .i64 0), (.int .i64 0), (.string ⟨#[]⟩)]) 32 rfl Tryd.underlying36 info25 rfl (by decide) (by omega) u7 out (⟨(wrap64 (nx bs x)), (Go.bits .xor .i64 (u / 2) (wrap64 (-(wrap64 (Go.bits .and .u64 u 1))))), ⟨#[]⟩⟩ : S25) [.int .i64 (wrap64 (nx bs x)), .int .i64 (Go.bits .xor .i64 (u / 2) (wrap64 (-(wrap64 (Go.bits .and .u64 u 1))))), .string ⟨#[]⟩] (fun _ => True) (fun _ => False) rfl (by first | (go_simp; done) | (go_simp; rfl)) ?aP (fun _ hk => hk.elim) ?aF ?aO ?aB ?aS ?aL ?_; (case aP => exact k25_mkM _ _ _ (⟨(wrap64 (nx bs x)), (Go.bits .xor .i64 (u / 2) (wrap64 (-(wrap64 (Go.bits .and .u64 u 1))))), ⟨#[]⟩⟩ : S25)); (case aF => exact fun _ _ => trivial); (case aO => (repeat (apply Kd.R_alloc)); exact (Kd.R_mono (Kd.R_far (p := ⟨wa.heap.size, 1, none⟩) (R_over_box (Kd.R_alloc (Kd.R_elderB (R_over_box HOUT.out HI.out HG2.out) wa.heap.size (Nat.le_refl _)) _) (blk_alloc HI2.out _) HG3.out) (fun k hk => hk.2) _) (fun _ _ => trivial))); (case aB => (repeat (apply below_alloc)); exact below_set (below_gi (below_alloc (HGR.out HG2.out) _) HG3.out (by omega)) (by have := (HGR.out HG2.out).size; omega)); (case aS => have h9 := (below_set (j := 1) (v := .int .i64 (Go.bits .xor .i64 (u / 2) (wrap64 (-(wrap64 (Go.bits .and .u64 u 1)))))) (below_gi (below_alloc (HGR.out HG2.out) _) HG3.out (by omega)) (g := wa.heap.size) (by have := (HGR.out HG2.out).size; omega)).size; first | exact h9 | (simp only [size_alloc]; omega)); (case aL => have := HL2.out; omega); intro v1 w2 ho hb hg hat))
            have a1 := own_ne HOUT.out HI.out (by decide)
            have a2 := own_ne HOUT.out HBB.out (by decide)
            have a3 := own_ne HOUT.out HF.out (by decide)
            go_roundw
            case rel => exact ⟨n, y, out ++ [⟨wrap64 (nx bs x), num u, ⟨#[]⟩⟩], by have := HN.out; have := HB.out; have := H16.out; first | rfl | (unfold wrap64; congr 1; omega), ⟨by have := HB.out; omega, by have := HB.out; have := HY.out; omega, by have := HB.out; have := HY.out; omega⟩, HG3x, ⟨by have := HL2.out; simp; omega⟩,
              ⟨blk_grown (blk_far HI3.out (by show _ ≠ wa.heap.size; have := blk_lt HF.out; have := HG2.out.size; omega) _) hg a1⟩, ⟨blk_grown (blk_far (blk_grown (blk_alloc (blk_grown HBB.out HG2.out (fun e => by have := Option.some.inj e; omega)) _) HG3.out (fun e => by have := Option.some.inj e; omega)) (by show _ ≠ wa.heap.size; have := blk_lt HF.out; have := HG2.out.size; omega) _) hg a2⟩, ⟨blk_grown (blk_far (blk_grown (blk_alloc (blk_grown HF.out HG2.out (fun e => by have := Option.some.inj e; omega)) _) HG3.out (fun e => by have := Option.some.inj e; omega)) (by show _ ≠ wa.heap.size; have := blk_lt HF.out; have := HG2.out.size; omega) _) hg a3⟩, ⟨ho⟩, ⟨hb⟩⟩
            case measure =>
              have h7 := HB.out
              have h8 := H16.out
              have hw9 : wrap64 (rd bs 0 - ((n : Int) + 1) + 1) = rd bs 0 - n := by unfold wrap64; omega
              simp [intOf, hw9]
              omega
          · have b0 : (wrap64 (nx bs x) == 0) = false := beq_eq_false_iff_ne.mpr (by omega)
            have b1 : (wrap64 (nx bs x) == 1) = false := beq_eq_false_iff_ne.mpr (by omega)
            have b2 : (wrap64 (nx bs x) == 2) = true := beq_iff_eq.mpr (by omega)
            have b5 : (wrap64 (nx bs x) == 5) = false := beq_eq_false_iff_ne.mpr (by omega)
            have b3 : (wrap64 (nx bs x) == 3) = false := beq_eq_false_iff_ne.mpr (by omega)
            clear t0 t1
            go_wp2_with (first | (go_at_call 39; refine (next_calls (w.heap.size + 1) w.heap.size x (some ad) c bs _ HI.out HBB.out HRC.out (by have := HB.out; omega) (by have := HB.out; omega)).mono ?_; rintro e wa ⟨rfl, hy2, hg2⟩; have HI2 := Aside0.mk hy2; have HG2 := Aside0.mk hg2; clear hy2 hg2) | (go_at_call 40; refine (varint_calls' (w.heap.size + 1) w.heap.size (w.heap.size + 1 + 1) (x + 1) (some ad) c bs u y _ HUV.out (blk_alloc HI2.out _) (blk_alloc (blk_grown HBB.out HG2.out (fun e => by have := Option.some.inj e; omega)) _) (blk_alloc (blk_grown HF.out HG2.out (fun e => by have := Option.some.inj e; omega)) _) (fun ad' e => by have := Option.some.inj e; subst this; have := HAD.out; omega) (Kd.C_below HR.out (below_alloc (HGR.out HG2.out) _)) (by have := HB.out; omega) (by have := HB.out; omega)).mono ?_; rintro e wb ⟨rfl, hy3, hg3⟩; have HI3 := Aside0.mk hy3; have HG3 := Aside0.mk hg3; have HBK : Aside0 (wb.heap[wa.heap.size]? = some (.cells #[.int .i64 (wrap64 (nx bs x)), .int .i64 0, .string ⟨#[]⟩] 25 (0, 0))) := ⟨blk_grown (blk_new' _ _ _ rfl) hg3 (fun e => by have := Option.some.inj e; have := blk_lt HI2.out; omega)⟩; have hcb0 := (blk_cell HBK.out 0).trans rfl; have hcb1 := (blk_cell HBK.out 1).trans rfl; have hcb2 := (blk_cell HBK.out 2).trans rfl; have hfb0 := blk_frozen HBK.out 0; have hfb1 := blk_frozen HBK.out 1; have hfb2 := blk_frozen HBK.out 2; clear hy3 hg3) | ((with_reducible refine gate_builtin (b := .append) (xs := #[.tmp 96, .tmp 98]) rfl ?_); at_builtin; refine Kd.R_append k25 (w0 := w) w.heap.size rfl (.tmp 96) (.tmp 98) 36 25 (.agg #[(.int .i64 0), (.int .i64 0), (.string ⟨#[]⟩)]) 32 rfl Tryd.underlying36 info25 rfl (by decide) (by omega) u7 out (⟨(wrap64 (nx bs x)), (Go.bits .xor .i64 (u / 2) (wrap64 (-(wrap64 (Go.bits .and .u64 u 1))))), ⟨#[]⟩⟩ : S25) [.int .i64 (wrap64 (nx bs x)), .int .i64 (Go.bits .xor .i64 (u / 2) (wrap64 (-(wrap64 (Go.bits .and .u64 u 1))))), .string ⟨#[]⟩] (fun _ => True) (fun _ => False) rfl (by first | (go_simp; done) | (go_simp; rfl)) ?aP (fun _ hk => hk.elim) ?aF ?aO ?aB ?aS ?aL ?_; (case aP => exact k25_mkM _ _ _ (⟨(wrap64 (nx bs x)), (Go.bits .xor .i64 (u / 2) (wrap64 (-(wrap64 (Go.bits .and .u64 u 1))))), ⟨#[]⟩⟩ : S25)); (case aF => exact fun _ _ => trivial); (case aO => (repeat (apply Kd.R_alloc)); exact (Kd.R_mono (Kd.R_far (p := ⟨wa.heap.size, 1, none⟩) (R_over_box (Kd.R_alloc (Kd.R_elderB (R_over_box HOUT.out HI.out HG2.out) wa.heap.size (Nat.le_refl _)) _) (blk_alloc HI2.out _) HG3.out) (fun k hk => hk.2) _) (fun _ _ => trivial))); (case aB => (repeat (apply below_alloc)); exact below_set (below_gi (below_alloc (HGR.out HG2.out) _) HG3.out (by omega)) (by have := (HGR.out HG2.out).size; omega)); (case aS => have h9 := (below_set (j := 1) (v := .int .i64 (Go.bits .xor .i64 (u / 2) (wrap64 (-(wrap64 (Go.bits .and .u64 u 1)))))) (below_gi (below_alloc (HGR.out HG2.out) _) HG3.out (by omega)) (g := wa.heap.size) (by have := (HGR.out HG2.out).size; omega)).size; first | exact h9 | (simp only [size_alloc]; omega)); (case aL => have := HL2.out; omega); intro v1 w2 ho hb hg hat))
            have a1 := own_ne HOUT.out HI.out (by decide)
            have a2 := own_ne HOUT.out HBB.out (by decide)
            have a3 := own_ne HOUT.out HF.out (by decide)
            go_roundw
            case rel => exact ⟨n, y, out ++ [⟨wrap64 (nx bs x), num u, ⟨#[]⟩⟩], by have := HN.out; have := HB.out; have := H16.out; first | rfl | (unfold wrap64; congr 1; omega), ⟨by have := HB.out; omega, by have := HB.out; have := HY.out; omega, by have := HB.out; have := HY.out; omega⟩, HG3x, ⟨by have := HL2.out; simp; omega⟩,
              ⟨blk_grown (blk_far HI3.out (by show _ ≠ wa.heap.size; have := blk_lt HF.out; have := HG2.out.size; omega) _) hg a1⟩, ⟨blk_grown (blk_far (blk_grown (blk_alloc (blk_grown HBB.out HG2.out (fun e => by have := Option.some.inj e; omega)) _) HG3.out (fun e => by have := Option.some.inj e; omega)) (by show _ ≠ wa.heap.size; have := blk_lt HF.out; have := HG2.out.size; omega) _) hg a2⟩, ⟨blk_grown (blk_far (blk_grown (blk_alloc (blk_grown HF.out HG2.out (fun e => by have := Option.some.inj e; omega)) _) HG3.out (fun e => by have := Option.some.inj e; omega)) (by show _ ≠ wa.heap.size; have := blk_lt HF.out; have := HG2.out.size; omega) _) hg a3⟩, ⟨ho⟩, ⟨hb⟩⟩
            case measure =>
              have h7 := HB.out
              have h8 := H16.out
              have hw9 : wrap64 (rd bs 0 - ((n : Int) + 1) + 1) = rd bs 0 - n := by unfold wrap64; omega
              simp [intOf, hw9]
              omega
          · have b0 : (wrap64 (nx bs x) == 0) = false := beq_eq_false_iff_ne.mpr (by omega)
            have b1 : (wrap64 (nx bs x) == 1) = false := beq_eq_false_iff_ne.mpr (by omega)
            have b2 : (wrap64 (nx bs x) == 2) = false := beq_eq_false_iff_ne.mpr (by omega)
            have b5 : (wrap64 (nx bs x) == 5) = true := beq_iff_eq.mpr (by omega)
            have b3 : (wrap64 (nx bs x) == 3) = false := beq_eq_false_iff_ne.mpr (by omega)
            clear t0 t1
            go_wp2_with (first | (go_at_call 39; refine (next_calls (w.heap.size + 1) w.heap.size x (some ad) c bs _ HI.out HBB.out HRC.out (by have := HB.out; omega) (by have := HB.out; omega)).mono ?_; rintro e wa ⟨rfl, hy2, hg2⟩; have HI2 := Aside0.mk hy2; have HG2 := Aside0.mk hg2; clear hy2 hg2) | (go_at_call 40; refine (varint_calls' (w.heap.size + 1) w.heap.size (w.heap.size + 1 + 1) (x + 1) (some ad) c bs u y _ HUV.out (blk_alloc HI2.out _) (blk_alloc (blk_grown HBB.out HG2.out (fun e => by have := Option.some.inj e; omega)) _) (blk_alloc (blk_grown HF.out HG2.out (fun e => by have := Option.some.inj e; omega)) _) (fun ad' e => by have := Option.some.inj e; subst this; have := HAD.out; omega) (Kd.C_below HR.out (below_alloc (HGR.out HG2.out) _)) (by have := HB.out; omega) (by have := HB.out; omega)).mono ?_; rintro e wb ⟨rfl, hy3, hg3⟩; have HI3 := Aside0.mk hy3; have HG3 := Aside0.mk hg3; have HBK : Aside0 (wb.heap[wa.heap.size]? = some (.cells #[.int .i64 (wrap64 (nx bs x)), .int .i64 0, .string ⟨#[]⟩] 25 (0, 0))) := ⟨blk_grown (blk_new' _ _ _ rfl) hg3 (fun e => by have := Option.some.inj e; have := blk_lt HI2.out; omega)⟩; have hcb0 := (blk_cell HBK.out 0).trans rfl; have hcb1 := (blk_cell HBK.out 1).trans rfl; have hcb2 := (blk_cell HBK.out 2).trans rfl; have hfb0 := blk_frozen HBK.out 0; have hfb1 := blk_frozen HBK.out 1; have hfb2 := blk_frozen HBK.out 2; clear hy3 hg3) | ((with_reducible refine gate_builtin (b := .append) (xs := #[.tmp 96, .tmp 98]) rfl ?_); at_builtin; refine Kd.R_append k25 (w0 := w) w.heap.size rfl (.tmp 96) (.tmp 98) 36 25 (.agg #[(.int .i64 0), (.int .i64 0), (.string ⟨#[]⟩)]) 32 rfl Tryd.underlying36 info25 rfl (by decide) (by omega) u7 out (⟨(wrap64 (nx bs x)), (Go.bits .xor .i64 (u / 2) (wrap64 (-(wrap64 (Go.bits .and .u64 u 1))))), ⟨#[]⟩⟩ : S25) [.int .i64 (wrap64 (nx bs x)), .int .i64 (Go.bits .xor .i64 (u / 2) (wrap64 (-(wrap64 (Go.bits .and .u64 u 1))))), .string ⟨#[]⟩] (fun _ => True) (fun _ => False) rfl (by first | (go_simp; done) | (go_simp; rfl)) ?aP (fun _ hk => hk.elim) ?aF ?aO ?aB ?aS ?aL ?_; (case aP => exact k25_mkM _ _ _ (⟨(wrap64 (nx bs x)), (Go.bits .xor .i64 (u / 2) (wrap64 (-(wrap64 (Go.bits .and .u64 u 1))))), ⟨#[]⟩⟩ : S25)); (case aF => exact fun _ _ => trivial); (case aO => (repeat (apply Kd.R_alloc)); exact (Kd.R_mono (Kd.R_far (p := ⟨wa.heap.size, 1, none⟩) (R_over_box (Kd.R_alloc (Kd.R_elderB (R_over_box HOUT.out HI.out HG2.out) wa.heap.size (Nat.le_refl _)) _) (blk_alloc HI2.out _) HG3.out) (fun k hk => hk.2) _) (fun _ _ => trivial))); (case aB => (repeat (apply below_alloc)); exact below_set (below_gi (below_alloc (HGR.out HG2.out) _) HG3.out (by omega)) (by have := (HGR.out HG2.out).size; omega)); (case aS => have h9 := (below_set (j := 1) (v := .int .i64 (Go.bits .xor .i64 (u / 2) (wrap64 (-(wrap64 (Go.bits .and .u64 u 1)))))) (below_gi (below_alloc (HGR.out HG2.out) _) HG3.out (by omega)) (g := wa.heap.size) (by have := (HGR.out HG2.out).size; omega)).size; first | exact h9 | (simp only [size_alloc]; omega)); (case aL => have := HL2.out; omega); intro v1 w2 ho hb hg hat))
            have a1 := own_ne HOUT.out HI.out (by decide)
            have a2 := own_ne HOUT.out HBB.out (by decide)
            have a3 := own_ne HOUT.out HF.out (by decide)
            go_roundw
            case rel => exact ⟨n, y, out ++ [⟨wrap64 (nx bs x), num u, ⟨#[]⟩⟩], by have := HN.out; have := HB.out; have := H16.out; first | rfl | (unfold wrap64; congr 1; omega), ⟨by have := HB.out; omega, by have := HB.out; have := HY.out; omega, by have := HB.out; have := HY.out; omega⟩, HG3x, ⟨by have := HL2.out; simp; omega⟩,
              ⟨blk_grown (blk_far HI3.out (by show _ ≠ wa.heap.size; have := blk_lt HF.out; have := HG2.out.size; omega) _) hg a1⟩, ⟨blk_grown (blk_far (blk_grown (blk_alloc (blk_grown HBB.out HG2.out (fun e => by have := Option.some.inj e; omega)) _) HG3.out (fun e => by have := Option.some.inj e; omega)) (by show _ ≠ wa.heap.size; have := blk_lt HF.out; have := HG2.out.size; omega) _) hg a2⟩, ⟨blk_grown (blk_far (blk_grown (blk_alloc (blk_grown HF.out HG2.out (fun e => by have := Option.some.inj e; omega)) _) HG3.out (fun e => by have := Option.some.inj e; omega)) (by show _ ≠ wa.heap.size; have := blk_lt HF.out; have := HG2.out.size; omega) _) hg a3⟩, ⟨ho⟩, ⟨hb⟩⟩
            case measure =>
              have h7 := HB.out
              have h8 := H16.out
              have hw9 : wrap64 (rd bs 0 - ((n : Int) + 1) + 1) = rd bs 0 - n := by unfold wrap64; omega
              simp [intOf, hw9]
              omega
        · by_cases t3 : wrap64 (nx bs x) = 3
          · have hvr := vr_range bs 10 (x + 1) 0 0 (by omega) (by omega)
            obtain ⟨u, y, huv⟩ : ∃ u y, vr bs 10 (x + 1) 0 0 = (u, y) := ⟨_, _, rfl⟩
            rw [huv] at hvr
            have HUV := Aside0.mk huv
            have hu0 : 0 ≤ u := hvr.1.1
            have hu1 : u < 18446744073709551616 := hvr.1.2
            have HY := Aside0.mk hvr.2
            clear hvr huv
            by_cases c1 : u > bs.length
            · have HIT : rvItem bs x = none := by unfold rvItem; rw [if_neg t0, if_neg t1, if_pos t3, HUV.out]; show (if u > bs.length ∨ y + u > bs.length then _ else _) = _; rw [if_pos (.inl c1)]
              have hon : o = none := by rw [← HG.out]; show (rvItem bs x).bind _ = _; rw [HIT]; rfl
              have hfn := HFIN.out
              rw [hon] at hfn
              have h12 : ([], (28 : Int)) = (R1, R2) := Option.some.inj hfn
              obtain ⟨h1, h2⟩ := Prod.mk.inj h12
              have H1 := Aside0.mk h1
              have H2 := Aside0.mk h2
              have b0 : (wrap64 (nx bs x) == 0) = false := beq_eq_false_iff_ne.mpr (by omega)
              have b1 : (wrap64 (nx bs x) == 1) = false := beq_eq_false_iff_ne.mpr (by omega)
              have b2 : (wrap64 (nx bs x) == 2) = false := beq_eq_false_iff_ne.mpr (by omega)
              have b5 : (wrap64 (nx bs x) == 5) = false := beq_eq_false_iff_ne.mpr (by omega)
              have b3 : (wrap64 (nx bs x) == 3) = true := beq_iff_eq.mpr (by omega)
              have b4 : (wrap64 (nx bs x) == 4) = false := beq_eq_false_iff_ne.mpr (by omega)
              have HL9 := HL.out
              have d1 : decide ((bs.length : Int) < u) = true := decide_eq_true c1
              have d2 : decide (u > (bs.length : Int)) = true := decide_eq_true c1
              clear t0 t1 t3 HIT hon hfn h12 h1 h2 c1
              go_wp2_with (first | (go_at_call 39; refine (next_calls (w.heap.size + 1) w.heap.size x (some ad) c bs _ HI.out HBB.out HRC.out (by have := HB.out; omega) (by have := HB.out; omega)).mono ?_; rintro e wa ⟨rfl, hy2, hg2⟩; have HI2 := Aside0.mk hy2; have HG2 := Aside0.mk hg2; clear hy2 hg2) | (go_at_call 40; refine (varint_calls' (w.heap.size + 1) w.heap.size (w.heap.size + 1 + 1) (x + 1) (some ad) c bs u y _ HUV.out (blk_alloc HI2.out _) (blk_alloc (blk_grown HBB.out HG2.out (fun e => by have := Option.some.inj e; omega)) _) (blk_alloc (blk_grown HF.out HG2.out (fun e => by have := Option.some.inj e; omega)) _) (fun ad' e => by have := Option.some.inj e; subst this; have := HAD.out; omega) (Kd.C_below HR.out (below_alloc (HGR.out HG2.out) _)) (by have := HB.out; omega) (by have := HB.out; omega)).mono ?_; rintro e wb ⟨rfl, hy3, hg3⟩; have HI3 := Aside0.mk hy3; have HG3 := Aside0.mk hg3; have HBK : Aside0 (wb.heap[wa.heap.size]? = some (.cells #[.int .i64 (wrap64 (nx bs x)), .int .i64 0, .string ⟨#[]⟩] 25 (0, 0))) := ⟨blk_grown (blk_new' _ _ _ rfl) hg3 (fun e => by have := Option.some.inj e; have := blk_lt HI2.out; omega)⟩; have hcb0 := (blk_cell HBK.out 0).trans rfl; have hcb1 := (blk_cell HBK.out 1).trans rfl; have hcb2 := (blk_cell HBK.out 2).trans rfl; have hfb0 := blk_frozen HBK.out 0; have hfb1 := blk_frozen HBK.out 1; have hfb2 := blk_frozen HBK.out 2; clear hy3 hg3; have hcw : wb.cell? ⟨w.heap.size, 0, none⟩ = some (.slice (some ad) bs.length c) := (blk_cell (blk_grown (blk_alloc (blk_grown HBB.out HG2.out (fun e => by have := Option.some.inj e; omega)) _) HG3.out (fun e => by have := Option.some.inj e; omega)) 0).trans rfl; have hfw := blk_frozen (blk_grown (blk_alloc (blk_grown HBB.out HG2.out (fun e => by have := Option.some.inj e; omega)) _) HG3.out (fun e => by have := Option.some.inj e; omega)) 0))
              go_ret2
              exact ⟨.slice none 0 0, by rw [← H2.out]; rfl, by rw [← H1.out]; exact Kd.R_nil _ _ _ _ _, (by first | exact (below_gi (below_alloc (HGR.out HG2.out) _) HG3.out (by omega)) | exact below_alloc (below_gi (below_alloc (HGR.out HG2.out) _) HG3.out (by omega)) _)⟩
            · have hu2 : u ≤ 4000 := by have := HL.out; omega
              clear hu1
              have hy0 : 0 ≤ y := by have := HY.out; have := HB.out; omega
              have hy1 : y ≤ 100000 := by have := HY.out; have := HB.out; omega
              have HL9 := HL.out
              by_cases c2 : y + u > bs.length
              · have HIT : rvItem bs x = none := by unfold rvItem; rw [if_neg t0, if_neg t1, if_pos t3, HUV.out]; show (if u > bs.length ∨ y + u > bs.length then _ else _) = _; rw [if_pos (.inr c2)]
                have hon : o = none := by rw [← HG.out]; show (rvItem bs x).bind _ = _; rw [HIT]; rfl
                have hfn := HFIN.out
                rw [hon] at hfn
                have h12 : ([], (28 : Int)) = (R1, R2) := Option.some.inj hfn
                obtain ⟨h1, h2⟩ := Prod.mk.inj h12
                have H1 := Aside0.mk h1
                have H2 := Aside0.mk h2
                have b0 : (wrap64 (nx bs x) == 0) = false := beq_eq_false_iff_ne.mpr (by omega)
                have b1 : (wrap64 (nx bs x) == 1) = false := beq_eq_false_iff_ne.mpr (by omega)
                have b2 : (wrap64 (nx bs x) == 2) = false := beq_eq_false_iff_ne.mpr (by omega)
                have b5 : (wrap64 (nx bs x) == 5) = false := beq_eq_false_iff_ne.mpr (by omega)
                have b3 : (wrap64 (nx bs x) == 3) = true := beq_iff_eq.mpr (by omega)
                have b4 : (wrap64 (nx bs x) == 4) = false := beq_eq_false_iff_ne.mpr (by omega)
                have d1 : decide ((bs.length : Int) < u) = false := decide_eq_false (by omega)
                have d2 : decide (u > (bs.length : Int)) = false := decide_eq_false (by omega)
                have d3 : decide ((bs.length : Int) < y + u) = true := decide_eq_true c2
                have d4 : decide (y + u > (bs.length : Int)) = true := decide_eq_true c2
                clear t0 t1 t3 HIT hon hfn h12 h1 h2 c1 c2
                go_wp2_with (first | (go_at_call 39; refine (next_calls (w.heap.size + 1) w.heap.size x (some ad) c bs _ HI.out HBB.out HRC.out (by have := HB.out; omega) (by have := HB.out; omega)).mono ?_; rintro e wa ⟨rfl, hy2, hg2⟩; have HI2 := Aside0.mk hy2; have HG2 := Aside0.mk hg2; clear hy2 hg2) | (go_at_call 40; refine (varint_calls' (w.heap.size + 1) w.heap.size (w.heap.size + 1 + 1) (x + 1) (some ad) c bs u y _ HUV.out (blk_alloc HI2.out _) (blk_alloc (blk_grown HBB.out HG2.out (fun e => by have := Option.some.inj e; omega)) _) (blk_alloc (blk_grown HF.out HG2.out (fun e => by have := Option.some.inj e; omega)) _) (fun ad' e => by have := Option.some.inj e; subst this; have := HAD.out; omega) (Kd.C_below HR.out (below_alloc (HGR.out HG2.out) _)) (by have := HB.out; omega) (by have := HB.out; omega)).mono ?_; rintro e wb ⟨rfl, hy3, hg3⟩; have HI3 := Aside0.mk hy3; have HG3 := Aside0.mk hg3; have HBK : Aside0 (wb.heap[wa.heap.size]? = some (.cells #[.int .i64 (wrap64 (nx bs x)), .int .i64 0, .string ⟨#[]⟩] 25 (0, 0))) := ⟨blk_grown (blk_new' _ _ _ rfl) hg3 (fun e => by have := Option.some.inj e; have := blk_lt HI2.out; omega)⟩; have hcb0 := (blk_cell HBK.out 0).trans rfl; have hcb1 := (blk_cell HBK.out 1).trans rfl; have hcb2 := (blk_cell HBK.out 2).trans rfl; have hfb0 := blk_frozen HBK.out 0; have hfb1 := blk_frozen HBK.out 1; have hfb2 := blk_frozen HBK.out 2; clear hy3 hg3; have hcw : wb.cell? ⟨w.heap.size, 0, none⟩ = some (.slice (some ad) bs.length c) := (blk_cell (blk_grown (blk_alloc (blk_grown HBB.out HG2.out (fun e => by have := Option.some.inj e; omega)) _) HG3.out (fun e => by have := Option.some.inj e; omega)) 0).trans rfl; have hfw := blk_frozen (blk_grown (blk_alloc (blk_grown HBB.out HG2.out (fun e => by have := Option.some.inj e; omega)) _) HG3.out (fun e => by have := Option.some.inj e; omega)) 0; have hci3 := (blk_cell HI3.out 0).trans rfl; have hfi3 := blk_frozen HI3.out 0))
                go_ret2
                exact ⟨.slice none 0 0, by rw [← H2.out]; rfl, by rw [← H1.out]; exact Kd.R_nil _ _ _ _ _, (by first | exact (below_gi (below_alloc (HGR.out HG2.out) _) HG3.out (by omega)) | exact below_alloc (below_gi (below_alloc (HGR.out HG2.out) _) HG3.out (by omega)) _)⟩
              · have HIT : Aside0 (rvItem bs x = some (⟨wrap64 (nx bs x), 0, (strOfNums ((bs.take (y + u).toNat).drop y.toNat))⟩, y + u)) := ⟨by unfold rvItem; rw [if_neg t0, if_neg t1, if_pos t3, HUV.out]; show (if u > bs.length ∨ y + u > bs.length then _ else _) = _; rw [if_neg (by omega)]; show some ((⟨_, 0, strOfNums ((bs.drop y.toNat).take u.toNat)⟩ : S25), y + u) = _; rw [show (bs.drop y.toNat).take u.toNat = (bs.take (y + u).toNat).drop y.toNat by rw [List.drop_take]; congr 1; omega]⟩
                have HG3x : Aside0 (rvGo bs n (y + u) (out ++ [⟨wrap64 (nx bs x), 0, (strOfNums ((bs.take (y + u).toNat).drop y.toNat))⟩]) = o) := ⟨by rw [← HG.out]; show _ = (rvItem bs x).bind _; rw [HIT.out]; rfl⟩
                have b0 : (wrap64 (nx bs x) == 0) = false := beq_eq_false_iff_ne.mpr (by omega)
                have b1 : (wrap64 (nx bs x) == 1) = false := beq_eq_false_iff_ne.mpr (by omega)
                have b2 : (wrap64 (nx bs x) == 2) = false := beq_eq_false_iff_ne.mpr (by omega)
                have b5 : (wrap64 (nx bs x) == 5) = false := beq_eq_false_iff_ne.mpr (by omega)
                have b3 : (wrap64 (nx bs x) == 3) = true := beq_iff_eq.mpr (by omega)
                have b4 : (wrap64 (nx bs x) == 4) = false := beq_eq_false_iff_ne.mpr (by omega)
                have d1 : decide ((bs.length : Int) < u) = false := decide_eq_false (by omega)
                have d2 : decide (u > (bs.length : Int)) = false := decide_eq_false (by omega)
                have d3 : decide ((bs.length : Int) < y + u) = false := decide_eq_false (by omega)
                have d4 : decide (y + u > (bs.length : Int)) = false := decide_eq_false (by omega)
                obtain ⟨i05, hi05, _, hsz5, _⟩ := info_parts info5
                have HC2 := Aside0.mk (show y + u ≤ (bs.length : Int) by omega)
                have hlen : ((bs.take (y + u).toNat).drop y.toNat).length = (y + u).toNat - y.toNat := by rw [List.length_drop, List.length_take]; omega
                have hcut := cut_mid (P := Tryd.prog) 33 5 .i64 .i64 Tryd.underlying33 hi05 1 hsz5 (some ad) bs.length c y (y + u) hy0 (by omega) HC2.out HLC.out
                obtain ⟨tx, htx⟩ : ∃ tx, tx = (bs.take (y + u).toNat).drop y.toNat := ⟨_, rfl⟩
                rw [← htx] at hlen HG3x
                rw [← hlen] at hcut
                have HTX := Aside0.mk htx
                clear htx
                obtain ⟨A5, hA5⟩ : ∃ A5, A5 = (if c = y.toNat then some ad else (some ad).map (·.add (y.toNat * 1))) := ⟨_, rfl⟩
                rw [← hA5] at hcut
                have HA5 := Aside0.mk hA5
                clear hA5 hi05 hsz5 hlen
                clear t0 t1 t3 c1 c2
                go_wp2_with (first | (go_at_call 39; refine (next_calls (w.heap.size + 1) w.heap.size x (some ad) c bs _ HI.out HBB.out HRC.out (by have := HB.out; omega) (by have := HB.out; omega)).mono ?_; rintro e wa ⟨rfl, hy2, hg2⟩; have HI2 := Aside0.mk hy2; have HG2 := Aside0.mk hg2; clear hy2 hg2) | (go_at_call 40; refine (varint_calls' (w.heap.size + 1) w.heap.size (w.heap.size + 1 + 1) (x + 1) (some ad) c bs u y _ HUV.out (blk_alloc HI2.out _) (blk_alloc (blk_grown HBB.out HG2.out (fun e => by have := Option.some.inj e; omega)) _) (blk_alloc (blk_grown HF.out HG2.out (fun e => by have := Option.some.inj e; omega)) _) (fun ad' e => by have := Option.some.inj e; subst this; have := HAD.out; omega) (Kd.C_below HR.out (below_alloc (HGR.out HG2.out) _)) (by have := HB.out; omega) (by have := HB.out; omega)).mono ?_; rintro e wb ⟨rfl, hy3, hg3⟩; have HI3 := Aside0.mk hy3; have HG3 := Aside0.mk hg3; have HBK : Aside0 (wb.heap[wa.heap.size]? = some (.cells #[.int .i64 (wrap64 (nx bs x)), .int .i64 0, .string ⟨#[]⟩] 25 (0, 0))) := ⟨blk_grown (blk_new' _ _ _ rfl) hg3 (fun e => by have := Option.some.inj e; have := blk_lt HI2.out; omega)⟩; have hcb0 := (blk_cell HBK.out 0).trans rfl; have hcb1 := (blk_cell HBK.out 1).trans rfl; have hcb2 := (blk_cell HBK.out 2).trans rfl; have hfb0 := blk_frozen HBK.out 0; have hfb1 := blk_frozen HBK.out 1; have hfb2 := blk_frozen HBK.out 2; clear hy3 hg3; have hcw : wb.cell? ⟨w.heap.size, 0, none⟩ = some (.slice (some ad) bs.length c) := (blk_cell (blk_grown (blk_alloc (blk_grown HBB.out HG2.out (fun e => by have := Option.some.inj e; omega)) _) HG3.out (fun e => by have := Option.some.inj e; omega)) 0).trans rfl; have hfw := blk_frozen (blk_grown (blk_alloc (blk_grown HBB.out HG2.out (fun e => by have := Option.some.inj e; omega)) _) HG3.out (fun e => by have := Option.some.inj e; omega)) 0; have hci3 := (blk_cell HI3.out 0).trans rfl; have hfi3 := blk_frozen HI3.out 0; have hcv := Kd.C_string (P := Tryd.prog) (src := 33) (dst := 9) (c := c - y.toNat) Tryd.underlying33 Tryd.underlying5 Tryd.underlying9 (show Kd.C (Kd.int .u8) wb A5 tx.length tx from by rw [HA5.out, HTX.out]; exact Kd.C_mid (c := c) (Kd.C_below HR.out (below_gi (below_alloc (HGR.out HG2.out) _) HG3.out (by omega))) (by omega) (by have := HC2.out; omega) HLC.out)) | ((with_reducible refine gate_store (t := 9) (p := 85) rfl ?_); refine store_event (t := 9) (p := 85) (v := ?vo1) (w1 := wb.setCell ⟨wa.heap.size, 2, none⟩ (.string (strOfNums tx))) ?hg ?ho ?hn ?hr ?_; (case ho => rfl); (case hg => rfl); (case hn => rfl); (case hr => first | (go_simp; done) | (go_simp; rfl)); intro w3 hw3; have HBK3 : Aside0 (w3.heap[wa.heap.size]? = some (.cells #[.int .i64 (wrap64 (nx bs x)), .int .i64 0, .string (strOfNums tx)] 25 (0, 0))) := ⟨by rw [hw3]; exact blk_put HBK.out 2 _ rfl⟩; have HI4 : Aside0 (w3.heap[w.heap.size + 1]? = some (.cells #[.int .i64 y] 3 (0, 0))) := ⟨by rw [hw3]; exact blk_far HI3.out (by show _ ≠ wa.heap.size; have := blk_lt HF.out; have := HG2.out.size; omega) _⟩; have HBB4 : Aside0 (w3.heap[w.heap.size]? = some (.cells #[.slice (some ad) bs.length c] 33 (0, 0))) := ⟨by rw [hw3]; exact blk_far (blk_grown (blk_alloc (blk_grown HBB.out HG2.out (fun e => by have := Option.some.inj e; omega)) _) HG3.out (fun e => by have := Option.some.inj e; omega)) (by show _ ≠ wa.heap.size; have := blk_lt HF.out; have := HG2.out.size; omega) _⟩; have HF4 : Aside0 (w3.heap[w.heap.size + 1 + 1]? = some (.cells #[.func (.func 39) #[] #[.pointer (some ⟨w.heap.size + 1, 0, none⟩), .pointer (some ⟨w.heap.size, 0, none⟩)]] 64 (0, 0))) := ⟨by rw [hw3]; exact blk_far (blk_grown (blk_alloc (blk_grown HF.out HG2.out (fun e => by have := Option.some.inj e; omega)) _) HG3.out (fun e => by have := Option.some.inj e; omega)) (by show _ ≠ wa.heap.size; have := blk_lt HF.out; have := HG2.out.size; omega) _⟩; have HB4 : Aside0 (Below w.heap.size w w3) := ⟨by rw [hw3]; exact below_set (below_gi (below_alloc (HGR.out HG2.out) _) HG3.out (by omega)) (by have := (HGR.out HG2.out).size; omega)⟩; have HR4 : Aside0 (Kd.R k25 25 w3 w.heap.size (fun k => True ∧ k ≠ wa.heap.size) u7 out) := ⟨by rw [hw3]; exact Kd.R_far (p := ⟨wa.heap.size, 2, none⟩) (R_over_box (Kd.R_alloc (Kd.R_elderB (R_over_box HOUT.out HI.out HG2.out) wa.heap.size (Nat.le_refl _)) _) (blk_alloc HI2.out _) HG3.out) (fun k hk => hk.2) _⟩; have hci4 := (blk_cell HI4.out 0).trans rfl; have hfi4 := blk_frozen HI4.out 0; clear hw3) | ((with_reducible refine gate_store (t := 3) (p := 4) rfl ?_); refine store_event (t := 3) (p := 4) (v := ?vo2) (w1 := w3.setCell ⟨w.heap.size + 1, 0, none⟩ (.int .i64 (y + u))) ?hg ?ho ?hn ?hr ?_; (case ho => rfl); (case hg => rfl); (case hn => rfl); (case hr => first | (go_simp; done) | (go_simp; rfl)); intro w4 hw4; have HBK5 : Aside0 (w4.heap[wa.heap.size]? = some (.cells #[.int .i64 (wrap64 (nx bs x)), .int .i64 0, .string (strOfNums tx)] 25 (0, 0))) := ⟨by rw [hw4]; exact blk_far HBK3.out (by show _ ≠ w.heap.size + 1; have := blk_lt HF.out; have := HG2.out.size; omega) _⟩; have HI5 : Aside0 (w4.heap[w.heap.size + 1]? = some (.cells #[.int .i64 (y + u)] 3 (0, 0))) := ⟨by rw [hw4]; exact blk_put HI4.out 0 _ rfl⟩; have HBB5 : Aside0 (w4.heap[w.heap.size]? = some (.cells #[.slice (some ad) bs.length c] 33 (0, 0))) := ⟨by rw [hw4]; exact blk_far HBB4.out (by show _ ≠ w.heap.size + 1; omega) _⟩; have HF5 : Aside0 (w4.heap[w.heap.size + 1 + 1]? = some (.cells #[.func (.func 39) #[] #[.pointer (some ⟨w.heap.size + 1, 0, none⟩), .pointer (some ⟨w.heap.size, 0, none⟩)]] 64 (0, 0))) := ⟨by rw [hw4]; exact blk_far HF4.out (by show _ ≠ w.heap.size + 1; omega) _⟩; have HB5 : Aside0 (Below w.heap.size w w4) := ⟨by rw [hw4]; exact below_set HB4.out (by omega)⟩; have HR5 : Aside0 (Kd.R k25 25 w4 w.heap.size (fun _ => True) u7 out) := ⟨by rw [hw4]; exact Kd.R_mono (R_over_box HR4.out HI4.out (grown_set (World.grownBy.refl w3 _) 0 _)) (fun _ _ => trivial)⟩; have hcd0 := (blk_cell HBK5.out 0).trans rfl; have hcd1 := (blk_cell HBK5.out 1).trans rfl; have hcd2 := (blk_cell HBK5.out 2).trans rfl; have hfd0 := blk_frozen HBK5.out 0; have hfd1 := blk_frozen HBK5.out 1; have hfd2 := blk_frozen HBK5.out 2; clear hw4) | ((with_reducible refine gate_builtin (b := .append) (xs := #[.tmp 96, .tmp 98]) rfl ?_); at_builtin; refine Kd.R_append k25 (w0 := w) w.heap.size rfl (.tmp 96) (.tmp 98) 36 25 (.agg #[(.int .i64 0), (.int .i64 0), (.string ⟨#[]⟩)]) 32 rfl Tryd.underlying36 info25 rfl (by decide) (by omega) u7 out (⟨(wrap64 (nx bs x)), 0, (strOfNums tx)⟩ : S25) [.int .i64 (wrap64 (nx bs x)), .int .i64 0, .string (strOfNums tx)] (fun _ => True) (fun _ => False) rfl (by first | (go_simp; done) | (go_simp; rfl)) ?aP (fun _ hk => hk.elim) ?aF ?aO ?aB ?aS ?aL ?_; (case aP => exact k25_mkM _ _ _ (⟨(wrap64 (nx bs x)), 0, (strOfNums tx)⟩ : S25)); (case aF => exact fun _ _ => trivial); (case aO => (repeat (apply Kd.R_alloc)); exact HR5.out); (case aB => (repeat (apply below_alloc)); exact HB5.out); (case aS => have h9 := HB5.out.size; first | exact h9 | (simp only [size_alloc]; omega)); (case aL => have := HL2.out; omega); intro v1 w2 ho hb hg hat))
                have a1 := own_ne HOUT.out HI.out (by decide)
                have a2 := own_ne HOUT.out HBB.out (by decide)
                have a3 := own_ne HOUT.out HF.out (by decide)
                go_roundw
                case rel => exact ⟨n, y + u, out ++ [⟨wrap64 (nx bs x), 0, strOfNums tx⟩], by have := HN.out; have := HB.out; have := H16.out; first | rfl | (unfold wrap64; congr 1; omega), ⟨by have := HB.out; omega, by have := HB.out; have := HY.out; have := HC2.out; have := HL.out; have := HL2.out; omega, by have := HB.out; have := HY.out; have := HC2.out; have := HL.out; have := HL2.out; omega⟩, HG3x, ⟨by have := HL2.out; simp; omega⟩,
                  ⟨blk_grown HI5.out hg a1⟩, ⟨blk_grown HBB5.out hg a2⟩, ⟨blk_grown HF5.out hg a3⟩, ⟨ho⟩, ⟨hb⟩⟩
                case measure =>
                  have h7 := HB.out
                  have h8 := H16.out
                  have hw9 : wrap64 (rd bs 0 - ((n : Int) + 1) + 1) = rd bs 0 - n := by unfold wrap64; omega
                  simp [intOf, hw9]
                  omega
          · by_cases t4 : wrap64 (nx bs x) = 4
            · have HIT : Aside0 (rvItem bs x = some (⟨wrap64 (nx bs x), wrap64 (nx bs (x + 1)), ⟨#[]⟩⟩, x + 1 + 1)) := ⟨by unfold rvItem; rw [if_neg t0, if_neg t1, if_neg t3, if_pos t4, show x + 1 + 1 = x + 2 by omega]⟩
              have HG3x : Aside0 (rvGo bs n (x + 1 + 1) (out ++ [⟨wrap64 (nx bs x), wrap64 (nx bs (x + 1)), ⟨#[]⟩⟩]) = o) := ⟨by rw [← HG.out]; show _ = (rvItem bs x).bind _; rw [HIT.out]; rfl⟩
              have b0 : (wrap64 (nx bs x) == 0) = false := beq_eq_false_iff_ne.mpr (by omega)
              have b1 : (wrap64 (nx bs x) == 1) = false := beq_eq_false_iff_ne.mpr (by omega)
              have b2 : (wrap64 (nx bs x) == 2) = false := beq_eq_false_iff_ne.mpr (by omega)
              have b5 : (wrap64 (nx bs x) == 5) = false := beq_eq_false_iff_ne.mpr (by omega)
              have b3 : (wrap64 (nx bs x) == 3) = false := beq_eq_false_iff_ne.mpr (by omega)
              have b4 : (wrap64 (nx bs x) == 4) = true := beq_iff_eq.mpr (by omega)
              clear t0 t1 t3 t4
              go_wp2_with (first | (go_at_call 39; refine (next_calls (w.heap.size + 1) w.heap.size x (some ad) c bs _ HI.out HBB.out HRC.out (by have := HB.out; omega) (by have := HB.out; omega)).mono ?_; rintro e wa ⟨rfl, hy2, hg2⟩; have HI2 := Aside0.mk hy2; have HG2 := Aside0.mk hg2; clear hy2 hg2; have hcf2 : (wa.alloc (.cells #[.int .i64 (wrap64 (nx bs x)), .int .i64 0, .string ⟨#[]⟩] 25)).cell? ⟨w.heap.size + 1 + 1, 0, none⟩ = some (.func (.func 39) #[] #[.pointer (some ⟨w.heap.size + 1, 0, none⟩), .pointer (some ⟨w.heap.size, 0, none⟩)]) := (blk_cell (blk_alloc (blk_grown HF.out HG2.out (fun e => by have := Option.some.inj e; omega)) _) 0).trans rfl) | (go_at_call 39; refine (next_calls (w.heap.size + 1) w.heap.size (x + 1) (some ad) c bs _ (blk_alloc HI2.out _) (blk_alloc (blk_grown HBB.out HG2.out (fun e => by have := Option.some.inj e; omega)) _) (Kd.C_below HR.out (below_alloc (HGR.out HG2.out) _)) (by have := HB.out; omega) (by have := HB.out; omega)).mono ?_; rintro e wb ⟨rfl, hy3, hg3⟩; have HI3 := Aside0.mk hy3; have HG3 := Aside0.mk hg3; have HBK : Aside0 (wb.heap[wa.heap.size]? = some (.cells #[.int .i64 (wrap64 (nx bs x)), .int .i64 0, .string ⟨#[]⟩] 25 (0, 0))) := ⟨blk_grown (blk_new' _ _ _ rfl) hg3 (fun e => by have := Option.some.inj e; have := blk_lt HI2.out; omega)⟩; have hcb0 := (blk_cell HBK.out 0).trans rfl; have hcb1 := (blk_cell HBK.out 1).trans rfl; have hcb2 := (blk_cell HBK.out 2).trans rfl; have hfb0 := blk_frozen HBK.out 0; have hfb1 := blk_frozen HBK.out 1; have hfb2 := blk_frozen HBK.out 2; clear hy3 hg3) | ((with_reducible refine gate_builtin (b := .append) (xs := #[.tmp 96, .tmp 98]) rfl ?_); at_builtin; refine Kd.R_append k25 (w0 := w) w.heap.size rfl (.tmp 96) (.tmp 98) 36 25 (.agg #[(.int .i64 0), (.int .i64 0), (.string ⟨#[]⟩)]) 32 rfl Tryd.underlying36 info25 rfl (by decide) (by omega) u7 out (⟨(wrap64 (nx bs x)), (wrap64 (nx bs (x + 1))), ⟨#[]⟩⟩ : S25) [.int .i64 (wrap64 (nx bs x)), .int .i64 (wrap64 (nx bs (x + 1))), .string ⟨#[]⟩] (fun _ => True) (fun _ => False) rfl (by first | (go_simp; done) | (go_simp; rfl)) ?aP (fun _ hk => hk.elim) ?aF ?aO ?aB ?aS ?aL ?_; (case aP => exact k25_mkM _ _ _ (⟨(wrap64 (nx bs x)), (wrap64 (nx bs (x + 1))), ⟨#[]⟩⟩ : S25)); (case aF => exact fun _ _ => trivial); (case aO => (repeat (apply Kd.R_alloc)); exact (Kd.R_mono (Kd.R_far (p := ⟨wa.heap.size, 1, none⟩) (R_over_box (Kd.R_alloc (Kd.R_elderB (R_over_box HOUT.out HI.out HG2.out) wa.heap.size (Nat.le_refl _)) _) (blk_alloc HI2.out _) HG3.out) (fun k hk => hk.2) _) (fun _ _ => trivial))); (case aB => (repeat (apply below_alloc)); exact below_set (below_gi (below_alloc (HGR.out HG2.out) _) HG3.out (by omega)) (by have := (HGR.out HG2.out).size; omega)); (case aS => have h9 := (below_set (j := 1) (v := .int .i64 (wrap64 (nx bs (x + 1)))) (below_gi (below_alloc (HGR.out HG2.out) _) HG3.out (by omega)) (g := wa.heap.size) (by have := (HGR.out HG2.out).size; omega)).size; first | exact h9 | (simp only [size_alloc]; omega)); (case aL => have := HL2.out; omega); intro v1 w2 ho hb hg hat))
              have a1 := own_ne HOUT.out HI.out (by decide)
              have a2 := own_ne HOUT.out HBB.out (by decide)
              have a3 := own_ne HOUT.out HF.out (by decide)
              go_roundw
              case rel => exact ⟨n, x + 1 + 1, out ++ [⟨wrap64 (nx bs x), wrap64 (nx bs (x + 1)), ⟨#[]⟩⟩], by have := HN.out; have := HB.out; have := H16.out; first | rfl | (unfold wrap64; congr 1; omega), ⟨by have := HB.out; omega, by have := HB.out; omega, by have := HB.out; omega⟩, HG3x, ⟨by have := HL2.out; simp; omega⟩,
                ⟨blk_grown (blk_far HI3.out (by show _ ≠ wa.heap.size; have := blk_lt HF.out; have := HG2.out.size; omega) _) hg a1⟩, ⟨blk_grown (blk_far (blk_grown (blk_alloc (blk_grown HBB.out HG2.out (fun e => by have := Option.some.inj e; omega)) _) HG3.out (fun e => by have := Option.some.inj e; omega)) (by show _ ≠ wa.heap.size; have := blk_lt HF.out; have := HG2.out.size; omega) _) hg a2⟩, ⟨blk_grown (blk_far (blk_grown (blk_alloc (blk_grown HF.out HG2.out (fun e => by have := Option.some.inj e; omega)) _) HG3.out (fun e => by have := Option.some.inj e; omega)) (by show _ ≠ wa.heap.size; have := blk_lt HF.out; have := HG2.out.size; omega) _) hg a3⟩, ⟨ho⟩, ⟨hb⟩⟩
              case measure =>
                have h7 := HB.out
                have h8 := H16.out
                have hw9 : wrap64 (rd bs 0 - ((n : Int) + 1) + 1) = rd bs 0 - n := by unfold wrap64; omega
                simp [intOf, hw9]
                omega
            · have HIT : rvItem bs x = none := by unfold rvItem; rw [if_neg t0, if_neg t1, if_neg t3, if_neg t4]
              have hon : o = none := by rw [← HG.out]; show (rvItem bs x).bind _ = _; rw [HIT]; rfl
              have hfn := HFIN.out
              rw [hon] at hfn
              have h12 : ([], (28 : Int)) = (R1, R2) := Option.some.inj hfn
              obtain ⟨h1, h2⟩ := Prod.mk.inj h12
              have H1 := Aside0.mk h1
              have H2 := Aside0.mk h2
              have b0 : (wrap64 (nx bs x) == 0) = false := beq_eq_false_iff_ne.mpr t0
              have b1 : (wrap64 (nx bs x) == 1) = false := beq_eq_false_iff_ne.mpr (by omega)
              have b2 : (wrap64 (nx bs x) == 2) = false := beq_eq_false_iff_ne.mpr (by omega)
              have b5 : (wrap64 (nx bs x) == 5) = false := beq_eq_false_iff_ne.mpr (by omega)
              have b3 : (wrap64 (nx bs x) == 3) = false := beq_eq_false_iff_ne.mpr t3
              have b4 : (wrap64 (nx bs x) == 4) = false := beq_eq_false_iff_ne.mpr t4
              clear t0 t1 t3 t4 HIT hon hfn h12 h1 h2
              go_wp2_with (go_at_call 39; refine (next_calls (w.heap.size + 1) w.heap.size x (some ad) c bs _ HI.out HBB.out HRC.out (by have := HB.out; omega) (by have := HB.out; omega)).mono ?_; rintro e w' ⟨rfl, hy2, hg2⟩; have HI2 := Aside0.mk hy2; have HG2 := Aside0.mk hg2; clear hy2 hg2)
              go_ret2
              exact ⟨.slice none 0 0, by rw [← H2.out]; rfl, by rw [← H1.out]; exact Kd.R_nil _ _ _ _ _, below_alloc (HGR.out HG2.out) _⟩
end Go.Proofs.YtaicfmmgmblmiaaDoor.QFnExactRowValues
