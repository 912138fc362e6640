/- Proved: the law FnExactSerialOrder, walked for the answer true: what its calls hand back being told, it returns true. No other conditions. -/
import Derived.Test.YtaicfmmgmblmiaaMark
import Derived.Test.YtaicfmmgmblmiaaQFnExactSerialOrderx3
import Derived.Test.YtaicfmmgmblmiaaQFnExactSerialOrderx5
import Derived.Test.YtaicfmmgmblmiaaQFnExactSerialOrderx7
namespace Go.Proofs.Ytaicfmmgmblmiaa.QFnExactSerialOrder
open Go.RowKit Go.Proofs.YtaicfmmgmblmiaaW.PrintWords Go.Proofs.YtaicfmmgmblmiaaW.PrintLast Go.Proofs.YtaicfmmgmblmiaaW.PrintMore
set_option linter.unusedVariables false
set_option linter.unusedSimpArgs false
theorem C56 {w : World} {A : Option Addr} {n : Nat} {xs : List S56} (h : Kd.C k56a w A n xs) : Kd.C k56 w A n xs := h
theorem held_n (k : Nat) (A : Option Addr) (c : Nat) (y : List Int) (m : Int) (n : Nat) (w : World) (hn : y.length = n) (hr0 : Kd.C (Kd.int .i64) w A y.length y) (hc0 : n ≤ c) (h : laws_heldIntS.f k y 1 = some m) :
    Calls Try.prog 13 #[.slice A n c, .int .i64 1] w fun e w' => e = .returned (.int .i64 m) ∧ Drawn0 w w' := by
  subst hn
  exact laws_heldIntS.calls k A c y 1 m w hr0 hc0 h
set_option maxHeartbeats 8000000 in
set_option maxRecDepth 100000 in
theorem law_none (k : Nat) (A0 : Option Addr) (c0 : Nat) (l0 : List S54) (t : Int) (w : World) (hr0 : Kd.C k54 w A0 l0.length l0) (hc0 : l0.length ≤ c0) (hsz : laws_szTxnInfoS.f k l0 1048576 = some t) (ht : t < 0) :
    Calls Try.prog 3 #[.slice A0 l0.length c0] w fun e w' => e = .returned (.bool true) ∧ Below w.heap.size w w' := by
  have HR0 := Aside0.mk hr0
  have HC0 := Aside0.mk hc0
  have HSZ := Aside0.mk hsz
  have t0 : decide (t < 0) = true := decide_eq_true ht
  clear hr0 hc0 hsz ht
  go_enter Try.func3, Try.ntmps3
  go_wp2_with (first | (go_at_call 5; (with_reducible refine (laws_szTxnInfoS.calls k A0 c0 l0 1048576 t w HR0.out HC0.out HSZ.out).mono ?_); rintro e w1 ⟨rfl, hb⟩; have HB1 := Aside0.mk hb; clear hb))
  go_ret
  exact ⟨rfl, HB1.out⟩
set_option maxHeartbeats 8000000 in
set_option maxRecDepth 100000 in
theorem law_true (k : Nat) (A0 : Option Addr) (c0 : Nat) (l0 : List S54) (t : Int) (l : List S56) (ro : List Int) (rc : Int) (m : Int) (y : List Int) (w : World) (hr0 : Kd.C k54 w A0 l0.length l0) (hc0 : l0.length ≤ c0)
    (hsz : laws_szTxnInfoS.f k l0 1048576 = some t) (ht : ¬ t < 0) (hto : laws_toTxnInfoS.f k l0 = some l) (hsp : spec_SerialOrder.f k l = some (ro, rc)) (him : impl_SerialOrder.f k l = some (ro, rc)) (heq : laws_eqIntS.f k ro ro = some true) (het : laws_eqTxnInfoS.f k l l = some true)
    (hsh : Short l) (hl : l.length ≤ 1048576) (hma : laws_markIntS.f k ro 1 = some (m, y)) (hhe : laws_heldIntS.f k y 1 = some m) (hm : 0 ≤ m) (hyl : y.length = ro.length) :
    Calls Try.prog 3 #[.slice A0 l0.length c0] w fun e w' => e = .returned (.bool true) ∧ Below w.heap.size w w' := by
  have HR0 := Aside0.mk hr0
  have HC0 := Aside0.mk hc0
  have HSZ := Aside0.mk hsz
  have HTO := Aside0.mk hto
  have HSP := Aside0.mk hsp
  have HIM := Aside0.mk him
  have HEQ := Aside0.mk heq
  have HET := Aside0.mk het
  have HSH := Aside0.mk hsh
  have HL := Aside0.mk hl
  have HMA := Aside0.mk hma
  have HHE := Aside0.mk hhe
  have HYL := Aside0.mk hyl
  have t0 : decide (t < 0) = false := decide_eq_false ht
  have n1 : (rc != rc) = false := by simp
  have n2 : (m != m) = false := by simp
  have n3 : decide (m < 0) = false := decide_eq_false (by omega)
  clear hr0 hc0 hsz ht hto hsp him heq het hsh hl hma hhe hm hyl
  go_enter Try.func3, Try.ntmps3
  go_wp2_with (first | (go_at_call 5; (with_reducible refine (laws_szTxnInfoS.calls k A0 c0 l0 1048576 t w HR0.out HC0.out HSZ.out).mono ?_); rintro e w1 ⟨rfl, hb⟩; have HB1 := Aside0.mk hb; clear hb))
  go_wp2_with (first | (go_at_call 7; (with_reducible refine (laws_toTxnInfoS.callsA k A0 c0 l0 l w1 (Kd.C_below HR0.out HB1.out) HC0.out HTO.out).mono ?_); rintro e w2 ⟨vA, rfl, hs, hb⟩; obtain ⟨AA, cA, eA⟩ := Kd.S_slice hs; subst eA; have HSA := Aside0.mk hs; have Hb2 := Aside0.mk hb; have HB2 := Aside0.mk (below_step HB1.out hb); clear hs hb))
  go_wp2_with (first | (go_at_call 6; (with_reducible refine (spec_SerialOrder.calls k AA cA l ro rc w2 (C56 (Kd.S_reads' HSA.out).2.2) (Kd.S_reads' HSA.out).2.1 HSP.out).mono ?_); rintro e w3 ⟨vW, rfl, hs, hb⟩; obtain ⟨AW, cW, eW⟩ := Kd.R_slice hs; subst eW; have HRW := Aside0.mk hs; have Hb3 := Aside0.mk hb; have HB3 := Aside0.mk (below_step HB2.out hb); clear hs hb))
  go_wp2_with (first | (go_at_call 7; (with_reducible refine (laws_toTxnInfoS.callsA k A0 c0 l0 l w3 (Kd.C_below HR0.out HB3.out) HC0.out HTO.out).mono ?_); rintro e w4 ⟨vX, rfl, hs, hb⟩; obtain ⟨AX, cX, eX⟩ := Kd.S_slice hs; subst eX; have HSX := Aside0.mk hs; have Hb4 := Aside0.mk hb; have HB4 := Aside0.mk (below_step HB3.out hb); clear hs hb))
  go_wp2_with (first | (go_at_call 8; (with_reducible refine (impl_SerialOrder.calls k AX cX l ro rc w4 (C56 (Kd.S_reads' HSX.out).2.2) (Kd.S_reads' HSX.out).2.1 HIM.out).mono ?_); rintro e w5 ⟨vG, rfl, hs, hb⟩; obtain ⟨AG, cG, eG⟩ := Kd.R_slice hs; subst eG; have HRG := Aside0.mk hs; have Hb5 := Aside0.mk hb; have HB5 := Aside0.mk (below_step HB4.out hb); clear hs hb))
  go_wp2_with (first | (go_at_call 9; (with_reducible refine (laws_eqIntS.calls k AG cG ro AW cW ro true w5 (Kd.R_reads' (HRG.out)).2.2 (Kd.R_reads' (HRG.out)).2.1 (Kd.R_reads' (Kd.R_below (Kd.R_below HRW.out Hb4.out) Hb5.out)).2.2 (Kd.R_reads' (Kd.R_below (Kd.R_below HRW.out Hb4.out) Hb5.out)).2.1 HEQ.out).mono ?_); rintro e w6 ⟨rfl, hd⟩; have Hb6 := Aside0.mk hd.below; have HB6 := Aside0.mk (below_step HB5.out hd.below); clear hd))
  go_wp2_with (first | (go_at_call 7; (with_reducible refine (laws_toTxnInfoS.callsA k A0 c0 l0 l w6 (Kd.C_below HR0.out HB6.out) HC0.out HTO.out).mono ?_); rintro e w7 ⟨vY, rfl, hs, hb⟩; obtain ⟨AY, cY, eY⟩ := Kd.S_slice hs; subst eY; have HSY := Aside0.mk hs; have Hb7 := Aside0.mk hb; have HB7 := Aside0.mk (below_step HB6.out hb); clear hs hb))
  go_wp2_with (first | (go_at_call 10; (with_reducible refine (laws_eqTxnInfoS.calls k AX cX l AY cY l true w7 (C56 (Kd.S_reads' (Kd.S_below (Kd.S_below (Kd.S_below HSX.out Hb5.out) Hb6.out) Hb7.out)).2.2) (Kd.S_reads' HSX.out).2.1 (C56 (Kd.S_reads' HSY.out).2.2) (Kd.S_reads' HSY.out).2.1 HET.out).mono ?_); rintro e w8 ⟨rfl, hb⟩; have Hb8 := Aside0.mk hb; have HB8 := Aside0.mk (below_step HB7.out hb); clear hb))
  go_wp2_with (first | (go_at_call 11; (with_reducible refine (mark_calls (fun k_ => w3.heap.size ≤ k_ ∧ k_ < w4.heap.size) _ l 1 w w8 HB8.out (Kd.S_lower (Kd.S_below (Kd.S_below (Kd.S_below (Kd.S_below (Kd.S_mono (ok' := fun k_ => w3.heap.size ≤ k_ ∧ k_ < w4.heap.size) (Kd.S_bound HSX.out) (fun _ hk => ⟨hk.2.1, hk.2.2.1⟩)) Hb5.out) Hb6.out) Hb7.out) Hb8.out) HB3.out.size) HSH.out HL.out (by decide) (by decide)).mono ?_); rintro e w9 ⟨cm, rfl, hc, hb, hk⟩; have n4 : decide (cm < 0) = false := decide_eq_false (by omega); have HB9 := Aside0.mk hb; have HK9 := Aside0.mk hk; clear hb hk hc))
  have HG9 := Aside0.mk (Kd.R_kept (Kd.R_below (Kd.R_below (Kd.R_below (Kd.R_mono (ok' := fun k_ => w4.heap.size ≤ k_ ∧ k_ < w5.heap.size) (Kd.R_bound HRG.out) (fun _ hk => ⟨hk.2.1, hk.2.2.1⟩)) Hb6.out) Hb7.out) Hb8.out) HK9.out (fun k_ hk hs => by have := hk.1; have := hs.2; omega))
  have HW9 := Aside0.mk (Kd.R_kept (Kd.R_below (Kd.R_below (Kd.R_below (Kd.R_below (Kd.R_below (Kd.R_mono (ok' := fun k_ => k_ < w3.heap.size) (Kd.R_bound HRW.out) (fun _ hk => hk.2.2.1)) Hb4.out) Hb5.out) Hb6.out) Hb7.out) Hb8.out) HK9.out (fun k_ hk hs => by have := hs.1; omega))
  go_wp2_with (first | (go_at_call 9; (with_reducible refine (laws_eqIntS.calls k AG cG ro AW cW ro true w9 (Kd.R_reads' (HG9.out)).2.2 (Kd.R_reads' (HG9.out)).2.1 (Kd.R_reads' (HW9.out)).2.2 (Kd.R_reads' (HW9.out)).2.1 HEQ.out).mono ?_); rintro e w10 ⟨rfl, hd⟩; have Hb10 := Aside0.mk hd.below; have HB10 := Aside0.mk (below_step HB9.out hd.below); clear hd))
  go_wp2_with (first | (go_at_call 12; (with_reducible refine (laws_markIntS.calls k (fun k_ => w4.heap.size ≤ k_ ∧ k_ < w5.heap.size) _ ro 1 m y w w10 HB10.out (Kd.R_lower (Kd.R_below HG9.out Hb10.out) HB4.out.size) HMA.out).mono ?_); rintro e w11 ⟨rfl, hr, hb, hk⟩; have HG11 := Aside0.mk hr; have HB11 := Aside0.mk hb; have HW11 := Aside0.mk (Kd.R_kept (Kd.R_below HW9.out Hb10.out) hk (fun k_ hk hs => by have := hs.1; have := Hb4.out.size; omega)); clear hr hb hk))
  go_wp2_with (first | (go_at_call 13; (with_reducible refine (held_n k AG cG y m ro.length w11 HYL.out (Kd.R_reads' (HG11.out)).2.2 (Kd.R_reads' (HG11.out)).2.1 HHE.out).mono ?_); rintro e w12 ⟨rfl, hd⟩; have Hb12 := Aside0.mk hd.below; have HB12 := Aside0.mk (below_step HB11.out hd.below); clear hd))
  go_wp2_with (first | (go_at_call 7; (with_reducible refine (laws_toTxnInfoS.callsA k A0 c0 l0 l w12 (Kd.C_below HR0.out HB12.out) HC0.out HTO.out).mono ?_); rintro e w13 ⟨vZ, rfl, hs, hb⟩; obtain ⟨AZ, cZ, eZ⟩ := Kd.S_slice hs; subst eZ; have HSZ := Aside0.mk hs; have Hb13 := Aside0.mk hb; have HB13 := Aside0.mk (below_step HB12.out hb); clear hs hb))
  go_wp2_with (first | (go_at_call 8; (with_reducible refine (impl_SerialOrder.calls k AZ cZ l ro rc w13 (C56 (Kd.S_reads' HSZ.out).2.2) (Kd.S_reads' HSZ.out).2.1 HIM.out).mono ?_); rintro e w14 ⟨vH, rfl, hs, hb⟩; obtain ⟨AH, cH, eH⟩ := Kd.R_slice hs; subst eH; have HRH := Aside0.mk hs; have Hb14 := Aside0.mk hb; have HB14 := Aside0.mk (below_step HB13.out hb); clear hs hb))
  go_wp2_with (first | (go_at_call 9; (with_reducible refine (laws_eqIntS.calls k AH cH ro AW cW ro true w14 (Kd.R_reads' (HRH.out)).2.2 (Kd.R_reads' (HRH.out)).2.1 (Kd.R_reads' (Kd.R_below (Kd.R_below (Kd.R_below HW11.out Hb12.out) Hb13.out) Hb14.out)).2.2 (Kd.R_reads' (Kd.R_below (Kd.R_below (Kd.R_below HW11.out Hb12.out) Hb13.out) Hb14.out)).2.1 HEQ.out).mono ?_); rintro e w15 ⟨rfl, hd⟩; have Hb15 := Aside0.mk hd.below; have HB15 := Aside0.mk (below_step HB14.out hd.below); clear hd))
  go_wp2_with (first | (go_at_call 13; (with_reducible refine (held_n k AG cG y m ro.length w15 HYL.out (Kd.R_reads' (Kd.R_below (Kd.R_below (Kd.R_below (Kd.R_below HG11.out Hb12.out) Hb13.out) Hb14.out) Hb15.out)).2.2 (Kd.R_reads' (Kd.R_below (Kd.R_below (Kd.R_below (Kd.R_below HG11.out Hb12.out) Hb13.out) Hb14.out) Hb15.out)).2.1 HHE.out).mono ?_); rintro e w16 ⟨rfl, hd⟩; have Hb16 := Aside0.mk hd.below; have HB16 := Aside0.mk (below_step HB15.out hd.below); clear hd))
  go_ret
  exact ⟨rfl, HB16.out⟩
end Go.Proofs.Ytaicfmmgmblmiaa.QFnExactSerialOrder
