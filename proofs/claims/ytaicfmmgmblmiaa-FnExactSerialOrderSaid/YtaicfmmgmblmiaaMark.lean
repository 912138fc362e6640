/- Proved: what laws.markTxnInfoS does: a number at least one is handed back, and nothing is written but the row's own blocks. Conditions: the row's lengths are bounded. -/
import Derived.Test.YtaicfmmgmblmiaaTo
import Derived.Test.YtaicfmmgmblmiaaQFnExactSerialOrderx6
namespace Go.Proofs.Ytaicfmmgmblmiaa.QFnExactSerialOrder
open Go.RowKit Go.Proofs.YtaicfmmgmblmiaaW.PrintWords Go.Proofs.YtaicfmmgmblmiaaW.PrintLast Go.Proofs.YtaicfmmgmblmiaaW.PrintMore
set_option linter.unusedVariables false
set_option linter.unusedSimpArgs false
theorem mark_int_loop (len : Nat) (hz : len ≤ 1048576) (a : Int) (h0 : 0 ≤ a) (h1 : a ≤ 1000000000000000) : ∀ (n i : Nat) (z : List Int), z.length = len → i + n = len → ∃ y, laws_markIntS.l0 (n + 1) z (a + i) (i : Int) = some (a + len, y) ∧ y.length = len := by
  intro n
  induction n with
  | zero =>
    intro i z hl hi
    obtain rfl : i = len := by omega
    refine ⟨z, ?_, hl⟩
    simp only [laws_markIntS.l0]
    rw [if_neg (by omega)]
  | succ n ih =>
    intro i z hl hi
    obtain ⟨q, hqq⟩ : ∃ q, q = n + 1 := ⟨_, rfl⟩
    rw [← hqq] at ih ⊢
    have e1 : wrap64 ((i : Int) + 1) = ((i + 1 : Nat) : Int) := by unfold wrap64; omega
    have e2 : wrap64 (a + (i : Int) + 1) = a + ((i + 1 : Nat) : Int) := by unfold wrap64; omega
    obtain ⟨y, g1, g2⟩ := ih (i + 1) (z.set i (a + i)) (by simp [hl]) (by omega)
    refine ⟨y, ?_, g2⟩
    simp only [laws_markIntS.l0]
    rw [if_pos (by omega), if_pos (by omega), Int.toNat_natCast, e1, e2]
    exact g1
theorem mark_int (z : List Int) (hz : z.length ≤ 1048576) (a : Int) (h0 : 0 ≤ a) (h1 : a ≤ 1000000000000000) : ∃ y, laws_markIntS.f (z.length + 1) z a = some (a + z.length, y) ∧ y.length = z.length := by
  obtain ⟨y, g1, g2⟩ := mark_int_loop z.length hz a h0 h1 z.length 0 z rfl (by omega)
  refine ⟨y, ?_, g2⟩
  unfold laws_markIntS.f
  rw [show a + ((0 : Nat) : Int) = a by omega] at g1
  exact g1
/-- The inner rows from one on are short. -/
def Short (l : List S56) : Prop := ∀ j, (l.getD j z56).f2.length ≤ 1048576 ∧ (l.getD j z56).f3.length ≤ 1048576
theorem short_set {l : List S56} (h : Short l) (i : Nat) (x : S56) (hx : x.f2.length ≤ 1048576 ∧ x.f3.length ≤ 1048576) : Short (l.set i x) := by
  intro j
  by_cases e : i = j
  · subst e
    by_cases hi : i < l.length
    · simp [List.getD, hi]; exact hx
    · have : l.set i x = l := by rw [List.set_eq_of_length_le (by omega)]
      rw [this]; exact h i
  · have : (l.set i x).getD j z56 = l.getD j z56 := by simp [List.getD, e]
    rw [this]; exact h j
set_option maxHeartbeats 8000000 in
set_option maxRecDepth 100000 in
theorem mark_calls (P0 : Nat → Prop) (v : Value) (l : List S56) (a1 : Int) (w0 w : World) (hB : Below w0.heap.size w0 w) (ho : Kd.S k56a 56 w w0.heap.size P0 v l) (hs : Short l) (hl : l.length ≤ 1048576) (h0 : 0 ≤ a1) (h1 : a1 ≤ 1000) :
    Calls Try.prog 11 #[v, .int .i64 a1] w fun e w' => ∃ c : Int, e = .returned (.int .i64 c) ∧ 0 ≤ c ∧ Below w0.heap.size w0 w' ∧ Kept w w' P0 := by
  have HB := Aside0.mk hB
  have HS0 := Aside0.mk hs
  have HL := Aside0.mk hl
  have HA := Aside0.mk (And.intro h0 h1)
  obtain ⟨A, cap, rfl⟩ := Kd.S_slice ho
  have HO := Aside0.mk ho
  clear hB hs hl h0 h1 ho
  go_enter Try.func11, Try.ntmps11
  go_wp2
  go_loopw [1, 5] (fun v1 v5 w' => ∃ (n i : Nat) (c : Int) (l' : List S56), v1 = .int .i64 c ∧ v5 = .int .i64 (i : Int) ∧ Aside0 (i + n = l.length ∧ l'.length = l.length) ∧ Aside0 (0 ≤ c ∧ c ≤ 1000 + (i : Int) * 3000000) ∧ Aside0 (Short l') ∧ Aside0 (Kd.S k56a 56 w' w0.heap.size P0 (.slice A l.length cap) l') ∧ Aside0 (Below w0.heap.size w0 w') ∧ Aside0 (Kept w w' P0)) (fun _ v5 _ => 1048576 - (intOf v5).toNat)
  case atStart => exact ⟨l.length, 0, a1, l, rfl, rfl, ⟨by omega, rfl⟩, ⟨HA.out.1, by have := HA.out; omega⟩, HS0, HO, HB, ⟨Kept.refl _ _⟩⟩
  case round =>
    obtain ⟨n, i, c, l', rfl, rfl, HI, HC, HSH, HS, HBW, HK⟩ := hrel
    cases n with
    | zero =>
      have hlt : decide ((i : Int) < (l.length : Int)) = false := decide_eq_false (by have := HI.out.1; omega)
      have hlt2 : decide (i < l.length) = false := decide_eq_false (by have := HI.out.1; omega)
      go_wp2
      go_ret
      exact ⟨c, rfl, HC.out.1, HBW.out, HK.out⟩
    | succ n =>
      have hlt : decide ((i : Int) < (l.length : Int)) = true := decide_eq_true (by have := HI.out.1; omega)
      have hlt2 : decide (i < l.length) = true := decide_eq_true (by have := HI.out.1; omega)
      have hil : i < l.length := by have := HI.out.1; omega
      obtain ⟨g, cap', ev, hgb, hglt, _⟩ := Kd.S_form HS.out (by rw [HI.out.2]; omega)
      injection ev with ea en ec
      subst ea ec
      clear en
      have q0 : (0 : Int) ≤ (i : Int) := by omega
      have q1 : (i : Int) < ((l.length : Nat) : Int) := by omega
      obtain ⟨oki, cs, hcl, hM, hcc, hfr, hoki, hH⟩ := Kd.S_elem HS.out z56 (i : Int) q0 (by omega)
      obtain ⟨v2, v3, rfl, g2, g3, hap⟩ := k56a_openA hM
      have hsh := HSH.out i
      simp only [Int.toNat_natCast] at hM hcc hH hfr g2 g3
      generalize hX : l'.getD i z56 = X at g2 g3 hsh hM hcc hH
      obtain ⟨y2, hm2, hy2⟩ := mark_int X.f2 hsh.1 (c + 1 + 1) (by have := HC.out; omega) (by have := HC.out; have := HL.out; omega)
      obtain ⟨y3, hm3, hy3⟩ := mark_int X.f3 hsh.2 (c + 1 + 1 + X.f2.length) (by have := HC.out; omega) (by have := HC.out; have := HL.out; omega)
      have HY := Aside0.mk (And.intro hy2 hy3)
      have HSX := Aside0.mk hsh
      have HM2 := Aside0.mk hm2
      have HM3 := Aside0.mk hm3
      have hx0 : wr.cell? ⟨g, i * 4, none⟩ = some (.int .i64 X.f0) := hcc 0 _ rfl
      have hx1 : wr.cell? ⟨g, i * 4 + 1, none⟩ = some (.int .i64 X.f1) := hcc 1 _ rfl
      have hx2 : wr.cell? ⟨g, i * 4 + 2, none⟩ = some v2 := hcc 2 _ rfl
      have hx3 : wr.cell? ⟨g, i * 4 + 3, none⟩ = some v3 := hcc 3 _ rfl
      have hf0 : wr.frozen? ⟨g, i * 4, none⟩ = false := hfr 0
      have hf1 : wr.frozen? ⟨g, i * 4 + 1, none⟩ = false := hfr 1
      have hH1 := (Kd.H_seg hH q0 (by omega) (seg := [.int .i64 c]) (j := 0) (by show 0 + 1 ≤ 4; decide) (by simp [Value.oneCell'])).1
      have hH2 := (Kd.H_seg hH1 q0 (by omega) (seg := [.int .i64 (c + 1)]) (j := 1) (by show 1 + 1 ≤ 4; decide) (by simp [Value.oneCell'])).1
      have HH2 : Aside0 (Kd.H k56a 56 ((wr.setCell ⟨g, i * 4, none⟩ (.int .i64 c)).setCell ⟨g, i * 4 + 1, none⟩ (.int .i64 (c + 1))) w0.heap.size P0 (.slice (some ⟨g, 0, none⟩) l.length cap) l' (i : Int) oki [.int .i64 c, .int .i64 (c + 1), v2, v3]) := ⟨hH2⟩
      have HB2 : Aside0 (Below w0.heap.size w0 ((wr.setCell ⟨g, i * 4, none⟩ (.int .i64 c)).setCell ⟨g, i * 4 + 1, none⟩ (.int .i64 (c + 1)))) := ⟨below_set (below_set HBW.out hgb) hgb⟩
      have HK2 : Aside0 (Kept w ((wr.setCell ⟨g, i * 4, none⟩ (.int .i64 c)).setCell ⟨g, i * 4 + 1, none⟩ (.int .i64 (c + 1))) P0) := ⟨Kept.setCell (Kept.setCell HK.out (.inl ((Kd.S_R HS.out).1 g rfl)) _) (.inl ((Kd.S_R HS.out).1 g rfl)) _⟩
      have hR2 := Kd.R_tight rfl (Kd.R_far (p := ⟨g, i * 4 + 1, none⟩) (Kd.R_far (p := ⟨g, i * 4, none⟩) g2 (fun k hk => (hoki k hk).2) (.int .i64 c)) (fun k hk => (hoki k hk).2) (.int .i64 (c + 1)))
      have hR3 := Kd.R_tight rfl (Kd.R_far (p := ⟨g, i * 4 + 1, none⟩) (Kd.R_far (p := ⟨g, i * 4, none⟩) g3 (fun k hk => (hoki k hk).2) (.int .i64 c)) (fun k hk => (hoki k hk).2) (.int .i64 (c + 1)))
      obtain ⟨A2, c2, e2⟩ := Kd.R_slice g2
      obtain ⟨A3, c3, e3⟩ := Kd.R_slice g3
      subst e2 e3
      have HR2 := Aside0.mk hR2
      have HR3 := Aside0.mk hR3
      have HO2 := Aside0.mk g2.1
      have HO3 := Aside0.mk g3.1
      have HOK := Aside0.mk hoki
      have HAP := Aside0.mk hap
      have HCC := Aside0.mk (Kd.H_raw hH2 q0 (by omega))
      have hc0 : 0 ≤ c := HC.out.1
      have hc1 : c ≤ 10000000000000 := by have := HC.out; have := HL.out; omega
      have hs2 : ((X.f2.length : Nat) : Int) ≤ 1048576 := by have := hsh.1; omega
      have hs3 : ((X.f3.length : Nat) : Int) ≤ 1048576 := by have := hsh.2; omega
      have qq1 : (i < l.length) = True := eq_true hil
      have hle : (i : Int) ≤ 1048576 := by have := HL.out; omega
      have HQ := Aside0.mk (And.intro hgb hil)
      replace q0 := eq_true q0
      replace q1 := eq_true q1
      clear hm2 hm3 hy2 hy3 hcl hcc hfr hM hH hH1 hH2 hR2 hR3 g2 g3 hoki hap hsh hgb hglt hil hX
      go_wp2_with (first
        | (go_at_call 12; (with_reducible refine (laws_markIntS.calls (X.f2.length + 1) (fun k => some k = (Value.slice A2 X.f2.length c2).ownBlock) (.slice A2 X.f2.length c2) X.f2 _ _ y2 w0 _ HB2.out HR2.out HM2.out).mono ?_); rintro e w3 ⟨rfl, hr2, hb3, hk3⟩;
            have HR2' := Aside0.mk (Kd.R_tight rfl hr2); have HB3 := Aside0.mk hb3; have HK3 := Aside0.mk hk3; have HH3 := Aside0.mk (Kd.H_kept HH2.out hk3 (fun k _ hn hs => hn (HO2.out k hs.symm)));
            have HR3' := Aside0.mk (Kd.R_kept HR3.out hk3 (fun k hk hs => HAP.out k hs.symm hk));
            have hx3' : w3.cell? ⟨g, i * 4 + 3, none⟩ = some (.slice A3 X.f3.length c3) := cell_kept (by obtain ⟨_, _, _, _, _, h9, _⟩ := HCC.out; exact h9 3 _ rfl) hk3 (fun hs => (HOK.out g (HO2.out g hs.symm)).2 rfl); clear hr2 hb3 hk3)
        | (go_at_call 12; (with_reducible refine (laws_markIntS.calls (X.f3.length + 1) (fun k => some k = (Value.slice A3 X.f3.length c3).ownBlock) (.slice A3 X.f3.length c3) X.f3 _ _ y3 w0 _ HB3.out HR3'.out HM3.out).mono ?_); rintro e w4 ⟨rfl, hr3, hb4, hk4⟩;
            have HR3b := Aside0.mk (Kd.R_tight rfl hr3); have HB4 := Aside0.mk hb4; have HK4 := Aside0.mk hk4; have HH4 := Aside0.mk (Kd.H_kept HH3.out hk4 (fun k _ hn hs => hn (HO3.out k hs.symm)));
            have HR2b := Aside0.mk (Kd.R_kept HR2'.out hk4 (fun k hk hs => HAP.out k hk.symm hs)); clear hr3 hb4 hk4))
      have hSb := Kd.H_back HH4.out (x' := (⟨c, c + 1, y2, y3⟩ : S56)) (okp := oki) (k56a_mkM (x := (⟨c, c + 1, y2, y3⟩ : S56)) HAP.out _ _ _ (by have h8 := Kd.R_mono HR2b.out (fun k hk => HO2.out k hk.symm); exact h8) (by have h8 := Kd.R_mono HR3b.out (fun k hk => HO3.out k hk.symm); exact h8)) (fun _ h => h)
      go_roundw
      case rel => exact ⟨n, i + 1, c + 1 + 1 + X.f2.length + X.f3.length, l'.set i ⟨c, c + 1, y2, y3⟩, rfl, by go_num, ⟨by have := HI.out; omega, by rw [List.length_set]; exact HI.out.2⟩, ⟨by have := HC.out; omega, by have := HC.out; omega⟩, ⟨short_set HSH.out i _ ⟨by show y2.length ≤ _; rw [HY.out.1]; exact HSX.out.1, by show y3.length ≤ _; rw [HY.out.2]; exact HSX.out.2⟩⟩, ⟨hSb⟩, HB4, ⟨(HK2.out.then_ HK3.out (fun k hs => .inl (HOK.out k (HO2.out k hs.symm)).1)).then_ HK4.out (fun k hs => .inl (HOK.out k (HO3.out k hs.symm)).1)⟩⟩
      case measure =>
        have h8 := HQ.out
        have h9 := HL.out
        simp [intOf]; omega
end Go.Proofs.Ytaicfmmgmblmiaa.QFnExactSerialOrder
