/- Proved: what impl.scan answers at a word. -/
import Derived.Test.YtackifpnpkbddaaGreatDoorSn
import Derived.Test.YtackifpnpkbddaaGreatDoorScS
namespace Go.Proofs.YtackifpnpkbddaaGreatDoorScan
open Go Go.RowKit Go.Proofs.YtackifpnpkbddaaGreatDoorW.PrintWords Go.Proofs.YtackifpnpkbddaaGreatDoorW.PrintLast Go.Proofs.YtackifpnpkbddaaGreatDoorW.PrintMore Go.Proofs.YtackifpnpkbddaaGreatDoor.QScan
set_option linter.unusedVariables false
set_option linter.unusedSimpArgs false
theorem letter0 (L : B) (x0 : Int) (h : ((L.getD 0 0).toNat : Int) = x0) (b : Bool) (e : isLet (L.getD 0 0) = b) (w : World) : Calls Tryz.prog 32 #[.int .u8 x0] w fun e w' => e = .returned (.bool b) ∧ Below w.heap.size w w' := by
 subst h
 exact (impl_isLetter.calls _ b w (by rw [let_f, e])).mono fun e w' ⟨h1, nd, h2⟩ => ⟨h1, by rw [h2]; exact (by with_reducible apply pw_below_drewN; exact Below.refl _ _)⟩
theorem digit0 (L : B) (x0 : Int) (h : ((L.getD 0 0).toNat : Int) = x0) (b : Bool) (e : isDig (L.getD 0 0) = b) (w : World) : Calls Tryz.prog 33 #[.int .u8 x0] w fun e w' => e = .returned (.bool b) ∧ Below w.heap.size w w' := by
 subst h
 exact (impl_isDigit.calls _ b w (by rw [dig_f, e])).mono fun e w' ⟨h1, nd, h2⟩ => ⟨h1, by rw [h2]; exact (by with_reducible apply pw_below_drewN; exact Below.refl _ _)⟩
theorem wd_yes1 {c : UInt8} (h : isLet c = true) : isWd c = true := by unfold isWd; rw [h]; rfl
theorem wd_yes2 {c : UInt8} (h : isDig c = true) : isWd c = true := by unfold isWd; rw [h, Bool.or_true]
theorem wd_no {c : UInt8} (h : isLet c = false) (h2 : isDig c = false) : isWd c = false := by unfold isWd; rw [h, h2]; rfl
theorem wd_ascii {c : UInt8} (h : isWd c = true) : c.toNat < 128 := by
 unfold isWd isLet isDig at h
 simp only [Bool.or_eq_true, decide_eq_true_eq] at h
 omega
theorem word_ascii {l : B} (h : isLet (l.getD 0 0) = true) : ∀ c ∈ l.take (1 + cnt isWd (l.drop 1)), c.toNat < 128 := by
 cases l with
 | nil => intro c hc; simp at hc
 | cons d r =>
  intro c hc
  rw [Nat.add_comm, List.drop_succ_cons, List.drop_zero, List.take_succ_cons] at hc
  rcases List.mem_cons.1 hc with rfl | hc
  ·exact wd_ascii (wd_yes1 h)
  ·exact wd_ascii (cnt_all r c hc)
theorem lower_at (s : ByteArray) (i : Nat) (L : B) (hL : s.data.toList = L) (hs : s.size ≤ 4194304) (ha : ∀ c ∈ L.take i, c.toNat < 128) (w : World) : Calls Tryz.prog 41 #[.string (s.extract 0 i)] w fun e w' => ∃ tl : ByteArray, e = .returned (.string tl) ∧ tl.data.toList = Lib.toLowerA (L.take i) ∧ Below w.heap.size w w' :=
 (toLower27 (s.extract 0 i) (by rw [size_len, take_data]; have := List.length_take_le i s.data.toList; have : s.size = s.data.toList.length := rfl; simp only [List.length_take] at *; omega) (by rw [take_data, hL]; exact ha) w).mono fun e w' h => ⟨_, h.1, by rw [take_data, hL], h.2⟩
set_option maxHeartbeats 8000000 in
set_option maxRecDepth 100000 in
theorem scan12_word (s : ByteArray) (hs : s.size ≤ 4194304) (h0 : 0 < s.size) (hc : isLet (s.data.toList.getD 0 0) = true) (k n c a : Int) (t : ByteArray) (hr : wrdF s.data.toList (1 + cnt isWd (s.data.toList.drop 1)) = (k, t.data.toList, n, c, a)) (w : World) (hT : Tabs w) :
  Calls Tryz.prog 25 #[.string s] w fun e w' => e = .returned (.tuple #[.agg #[.int .i64 k, .string t, .int .i64 0], .int .i64 n, .int .i64 c, .int .i64 a]) ∧ Below w.heap.size w w' := by
 have hu := Tryz.underlying35
 have HT := Aside0.mk hT
 have HS := Aside0.mk hs
 have HZ := Aside0.mk h0
 obtain ⟨L, hL⟩ : ∃ L, s.data.toList = L := ⟨_, rfl⟩
 have HL := Aside0.mk hL
 have HN := Aside0.mk (show s.size = L.length by rw [← hL]; rfl)
 rw [hL] at hr hc
 have HR := Aside0.mk hr
 obtain ⟨x0, hx0⟩ : ∃ x0 : Int, ((L.getD 0 0).toNat : Int) = x0 := ⟨_, rfl⟩
 have HX := Aside0.mk hx0
 have hx : ∀ h : 0 < s.size, ((s[0]'h).toNat : Int) = x0 := fun h => by rw [← hx0, ← hL]; have := bt_nat s 0 h; rw [this, bt_get s 0 h]
 have p0 : ((0 : Int) < (s.size : Int)) = True := eq_true (by omega)
 have p0n : (0 < s.size) = True := eq_true h0
 have HC0 := Aside0.mk hc
 clear hc
 clear hT hr hs hL hx0 h0
 have HB := Aside0.mk (Below.refl w.heap.size w)
 have tokl : True := trivial
 go_enter Tryz.func25, Tryz.ntmps25
 go_wp2_with (first | ((with_reducible refine gate_dst (N := 2) rfl ?_); refine box_event ?hg (N := 2) ?hd (cs := #[.int .i64 0, .string (⟨#[]⟩ : ByteArray), .int .i64 0]) (t := 35) ?hr ?_; (case hd => rfl); (case hg => rfl); (case hr => first | (go_simp; done) | (go_simp; rfl)); intro b2 hg w2 hbox hb; have GE2 := Aside0.mk (show w.heap.size ≤ b2 by rw [hg]; exact below_size HB.out); replace HB := Aside0.mk (below_step HB.out hb); skip; have BK2 := Aside0.mk hbox; clear hbox hg hb) | (go_at_call 32; have t_ := tokl; clear t_; (with_reducible refine (letter0 L x0 HX.out true HC0.out _).mono ?_); rintro en w25 ⟨rfl, hb⟩; replace HB := Aside0.mk (below_step HB.out hb); replace BK2 := Aside0.mk (blk_below BK2.out hb); clear hb tokl))
 clear hx p0 p0n
 go_loopw [7] (fun v w' => ∃ (fl i : Nat), v = .int .i64 (i : Int) ∧ Aside0 (i + fl = L.length) ∧ Aside0 (1 ≤ i ∧ 1 + cnt isWd (L.drop 1) = i + cnt isWd (L.drop i)) ∧ Aside0 (w'.heap[b2]? = some (.cells #[.int .i64 0, .string (⟨#[]⟩ : ByteArray), .int .i64 0] 35 (0, 0))) ∧ Aside0 (Below w.heap.size w w')) (fun v _ => L.length - (intOf v).toNat)
 case atStart => exact ⟨L.length - 1, 1, rfl, ⟨by have := HZ.out; have := HN.out; omega⟩, ⟨Nat.le_refl _, rfl⟩, BK2, HB⟩
 case round =>
  clear HB BK2
  obtain ⟨fl, i, rfl, HI, HC, BK2, HB⟩ := hrel
  have tok1 : True := trivial
  have tok2 : True := trivial
  have p1 : ((0 : Int) ≤ (i : Int)) = True := eq_true (by omega)
  have q1 : ((i : Int) ≤ (s.size : Int)) = True := eq_true (by have := HN.out; have := HI.out; omega)
  have q1n : (i ≤ s.size) = True := eq_true (by have := HN.out; have := HI.out; omega)
  by_cases h1 : i < L.length
  ·have hlt : decide ((i : Int) < (s.size : Int)) = true := decide_eq_true (by have := HN.out; omega)
   have hltn : decide (i < s.size) = true := decide_eq_true (by have := HN.out; omega)
   have q0 : ((i : Int) < (s.size : Int)) = True := eq_true (by have := HN.out; omega)
   have q0n : (i < s.size) = True := eq_true (by have := HN.out; omega)
   have hx := bt_nat s i
   have HLT := Aside0.mk h1
   have HW := Aside0.mk (show wrap64 ((i : Int) + 1) = ((i + 1 : Nat) : Int) by have := HN.out; have := HS.out; unfold wrap64; omega)
   rcases Bool.eq_false_or_eq_true (isLet (L.getD i 0)) with h2 | h2
   ·have HD := Aside0.mk h2
    have HC2 := Aside0.mk (show 1 ≤ i + 1 ∧ 1 + cnt isWd (L.drop 1) = (i + 1) + cnt isWd (L.drop (i + 1)) by have h := HC.out; rw [cnt_yes h1 (wd_yes1 h2)] at h; exact ⟨by omega, by omega⟩)
    clear h1 h2
    go_wp2_with (first | (go_at_call 32; have t_ := tok1; clear t_; (with_reducible refine (letter_at s L HL.out i HLT.out true HD.out _).mono ?_); rintro en w5 ⟨rfl, hb⟩; replace HB := Aside0.mk (below_step HB.out hb); replace BK2 := Aside0.mk (blk_below BK2.out hb); clear hb tok1))
    go_roundw
    case rel => exact ⟨fl - 1, i + 1, (by first | exact congrArg (Value.int .i64) HW.out | go_num), ⟨by have := HI.out; have := HLT.out; omega⟩, HC2, BK2, HB⟩
    case measure => rw [HW.out]; have := HLT.out; show L.length - ((i + 1 : Nat) : Int).toNat < L.length - ((i : Nat) : Int).toNat; omega
   ·have HD := Aside0.mk h2
    rcases Bool.eq_false_or_eq_true (isDig (L.getD i 0)) with h3 | h3
    ·have HD2 := Aside0.mk h3
     have HC2 := Aside0.mk (show 1 ≤ i + 1 ∧ 1 + cnt isWd (L.drop 1) = (i + 1) + cnt isWd (L.drop (i + 1)) by have h := HC.out; rw [cnt_yes h1 (wd_yes2 h3)] at h; exact ⟨by omega, by omega⟩)
     clear h1 h2 h3
     go_wp2_with (first | (go_at_call 32; have t_ := tok1; clear t_; (with_reducible refine (letter_at s L HL.out i HLT.out false HD.out _).mono ?_); rintro en w5 ⟨rfl, hb⟩; replace HB := Aside0.mk (below_step HB.out hb); replace BK2 := Aside0.mk (blk_below BK2.out hb); clear hb tok1) | (go_at_call 33; have t_ := tok2; clear t_; (with_reducible refine (digit_at s L HL.out i HLT.out true HD2.out _).mono ?_); rintro en w6 ⟨rfl, hb⟩; replace HB := Aside0.mk (below_step HB.out hb); replace BK2 := Aside0.mk (blk_below BK2.out hb); clear hb tok2))
     go_roundw
     case rel => exact ⟨fl - 1, i + 1, (by first | exact congrArg (Value.int .i64) HW.out | go_num), ⟨by have := HI.out; have := HLT.out; omega⟩, HC2, BK2, HB⟩
     case measure => rw [HW.out]; have := HLT.out; show L.length - ((i + 1 : Nat) : Int).toNat < L.length - ((i : Nat) : Int).toNat; omega
    ·have HD2 := Aside0.mk h3
     have HE := Aside0.mk (show 1 + cnt isWd (L.drop 1) = i by rw [HC.out.2, cnt_no h1 (wd_no h2 h3)]; rfl)
     clear h1 h2 h3
     have tok27 : True := trivial
     by_cases v : 30 < i
     ·have g1 : decide ((30 : Int) < (i : Int)) = true := decide_eq_true (by omega)
      have g1n : decide (30 < i) = true := decide_eq_true v
      have HQ := Aside0.mk (tup ((show wrdF L (1 + cnt isWd (L.drop 1)) = err 5 by rw [HE.out]; unfold wrdF; rw [if_pos v]).symm.trans HR.out))
      clear v
      go_wp2_with (first | (go_at_call 32; have t_ := tok1; clear t_; (with_reducible refine (letter_at s L HL.out i HLT.out false HD.out _).mono ?_); rintro en w5 ⟨rfl, hb⟩; replace HB := Aside0.mk (below_step HB.out hb); replace BK2 := Aside0.mk (blk_below BK2.out hb); clear hb tok1) | (go_at_call 33; have t_ := tok2; clear t_; (with_reducible refine (digit_at s L HL.out i HLT.out false HD2.out _).mono ?_); rintro en w6 ⟨rfl, hb⟩; replace HB := Aside0.mk (below_step HB.out hb); replace BK2 := Aside0.mk (blk_below BK2.out hb); clear hb tok2; obtain ⟨hz2_0, hz2_1, hz2_2, hf2_0, hf2_1, hf2_2⟩ := row3 BK2.out) | fail)
      refine bodyPost_ret (results_list (rs := [.cell 2 35, .tmp 3, .tmp 4, .tmp 5]) rfl (by simp) (.cell b2 35 #[.int .i64 0, .string (⟨#[]⟩ : ByteArray), .int .i64 0] (0, 0) _ rfl (put3 BK2.out) Tryz.underlying35 rfl (by kernel_rfl) (.tmp (.tmp (.tmp .nil))))) rfl ?_
      exact ⟨by obtain ⟨h1, h2, h3, h4, h5⟩ := HQ.out; rw [h1, h3, h4, h5, bytes_ext (b := (⟨#[]⟩ : ByteArray)) (h2.trans rfl)] <;> rfl, by repeat (first | (with_reducible first | exact HB.out | refine below_set ?_ GE2.out | refine below_set ?_ GE8.out) | exact HB.out)⟩
     ·have g1 : decide ((30 : Int) < (i : Int)) = false := decide_eq_false (by omega)
      have g1n : decide (30 < i) = false := decide_eq_false v
      have HQ := Aside0.mk (tup ((show wrdF L (1 + cnt isWd (L.drop 1)) = (1, Lib.toLowerA (L.take i), (i : Int), 0, 0) by rw [HE.out]; unfold wrdF; rw [if_neg v]).symm.trans HR.out))
      clear v
      go_wp2_with (first | (go_at_call 32; have t_ := tok1; clear t_; (with_reducible refine (letter_at s L HL.out i HLT.out false HD.out _).mono ?_); rintro en w5 ⟨rfl, hb⟩; replace HB := Aside0.mk (below_step HB.out hb); replace BK2 := Aside0.mk (blk_below BK2.out hb); clear hb tok1) | (go_at_call 33; have t_ := tok2; clear t_; (with_reducible refine (digit_at s L HL.out i HLT.out false HD2.out _).mono ?_); rintro en w6 ⟨rfl, hb⟩; replace HB := Aside0.mk (below_step HB.out hb); replace BK2 := Aside0.mk (blk_below BK2.out hb); clear hb tok2; obtain ⟨hz2_0, hz2_1, hz2_2, hf2_0, hf2_1, hf2_2⟩ := row3 BK2.out) | (go_at_call 41; have t_ := tok27; clear t_; (with_reducible refine (lower_at s i L HL.out HS.out (by rw [← HE.out]; exact word_ascii HC0.out) _).mono ?_); rintro en w27 ⟨tl, rfl, htl, hb⟩; replace HB := Aside0.mk (below_step HB.out hb); replace BK2 := Aside0.mk (blk_below BK2.out hb); clear hb tok27; obtain ⟨hz2_0, hz2_1, hz2_2, hf2_0, hf2_1, hf2_2⟩ := row3 BK2.out; have HTL := Aside0.mk htl; clear htl))
      refine bodyPost_ret (results_list (rs := [.cell 2 35, .tmp 3, .tmp 4, .tmp 5]) rfl (by simp) (.cell b2 35 #[.int .i64 1, .string tl, .int .i64 0] (0, 0) _ rfl (put3 BK2.out) Tryz.underlying35 rfl (by kernel_rfl) (.tmp (.tmp (.tmp .nil))))) rfl ?_
      exact ⟨by obtain ⟨h1, h2, h3, h4, h5⟩ := HQ.out; rw [h1, h3, h4, h5, bytes_ext (b := tl) (h2.trans HTL.out.symm)] <;> rfl, by repeat (first | (with_reducible first | exact HB.out | refine below_set ?_ GE2.out | refine below_set ?_ GE8.out) | exact HB.out)⟩
  ·have hlt : decide ((i : Int) < (s.size : Int)) = false := decide_eq_false (by have := HN.out; omega)
   have hltn : decide (i < s.size) = false := decide_eq_false (by have := HN.out; omega)
   have hltp : (i < s.size) = False := eq_false (by have := HN.out; omega)
   have HE := Aside0.mk (show 1 + cnt isWd (L.drop 1) = i by rw [HC.out.2, cnt_end (by omega)]; rfl)
   clear h1
   have hz2_0 := (show wr.cell? ⟨b2, 0, none⟩ = some (.int .i64 0) from (blk_cell BK2.out 0).trans rfl)
   have hz2_1 := (show wr.cell? ⟨b2, 1, none⟩ = some (.string (⟨#[]⟩ : ByteArray)) from (blk_cell BK2.out 1).trans rfl)
   have hz2_2 := (show wr.cell? ⟨b2, 2, none⟩ = some (.int .i64 0) from (blk_cell BK2.out 2).trans rfl)
   have hf2_0 := blk_frozen BK2.out 0
   have hf2_1 := blk_frozen BK2.out 1
   have hf2_2 := blk_frozen BK2.out 2
   have tok27 : True := trivial
   by_cases v : 30 < i
   ·have g1 : decide ((30 : Int) < (i : Int)) = true := decide_eq_true (by omega)
    have g1n : decide (30 < i) = true := decide_eq_true v
    have HQ := Aside0.mk (tup ((show wrdF L (1 + cnt isWd (L.drop 1)) = err 5 by rw [HE.out]; unfold wrdF; rw [if_pos v]).symm.trans HR.out))
    clear v
    go_wp2_with (first | fail)
    refine bodyPost_ret (results_list (rs := [.cell 2 35, .tmp 3, .tmp 4, .tmp 5]) rfl (by simp) (.cell b2 35 #[.int .i64 0, .string (⟨#[]⟩ : ByteArray), .int .i64 0] (0, 0) _ rfl (put3 BK2.out) Tryz.underlying35 rfl (by kernel_rfl) (.tmp (.tmp (.tmp .nil))))) rfl ?_
    exact ⟨by obtain ⟨h1, h2, h3, h4, h5⟩ := HQ.out; rw [h1, h3, h4, h5, bytes_ext (b := (⟨#[]⟩ : ByteArray)) (h2.trans rfl)] <;> rfl, by repeat (first | (with_reducible first | exact HB.out | refine below_set ?_ GE2.out | refine below_set ?_ GE8.out) | exact HB.out)⟩
   ·have g1 : decide ((30 : Int) < (i : Int)) = false := decide_eq_false (by omega)
    have g1n : decide (30 < i) = false := decide_eq_false v
    have HQ := Aside0.mk (tup ((show wrdF L (1 + cnt isWd (L.drop 1)) = (1, Lib.toLowerA (L.take i), (i : Int), 0, 0) by rw [HE.out]; unfold wrdF; rw [if_neg v]).symm.trans HR.out))
    clear v
    go_wp2_with (first | (go_at_call 41; have t_ := tok27; clear t_; (with_reducible refine (lower_at s i L HL.out HS.out (by rw [← HE.out]; exact word_ascii HC0.out) _).mono ?_); rintro en w27 ⟨tl, rfl, htl, hb⟩; replace HB := Aside0.mk (below_step HB.out hb); replace BK2 := Aside0.mk (blk_below BK2.out hb); clear hb tok27; obtain ⟨hz2_0, hz2_1, hz2_2, hf2_0, hf2_1, hf2_2⟩ := row3 BK2.out; have HTL := Aside0.mk htl; clear htl))
    refine bodyPost_ret (results_list (rs := [.cell 2 35, .tmp 3, .tmp 4, .tmp 5]) rfl (by simp) (.cell b2 35 #[.int .i64 1, .string tl, .int .i64 0] (0, 0) _ rfl (put3 BK2.out) Tryz.underlying35 rfl (by kernel_rfl) (.tmp (.tmp (.tmp .nil))))) rfl ?_
    exact ⟨by obtain ⟨h1, h2, h3, h4, h5⟩ := HQ.out; rw [h1, h3, h4, h5, bytes_ext (b := tl) (h2.trans HTL.out.symm)] <;> rfl, by repeat (first | (with_reducible first | exact HB.out | refine below_set ?_ GE2.out | refine below_set ?_ GE8.out) | exact HB.out)⟩
end Go.Proofs.YtackifpnpkbddaaGreatDoorScan
