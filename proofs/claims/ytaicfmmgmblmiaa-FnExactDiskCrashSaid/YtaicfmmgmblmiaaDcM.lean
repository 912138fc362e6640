/- Proved: what laws.markByteSS, markDisk and markWriteS do: the numbers that they hand back, what the rows hold then, and that nothing is written but the rows' own blocks. Conditions: the rows' lengths are bounded. -/
import Derived.Test.YtaicfmmgmblmiaaDcF
import Derived.Test.YtaicfmmgmblmiaaQFnExactDiskCrashx5
namespace Go.Proofs.Ytaicfmmgmblmiaa.QFnExactDiskCrash
open Go.RowKit Go.Proofs.YtaicfmmgmblmiaaW.PrintWords Go.Proofs.YtaicfmmgmblmiaaW.PrintLast Go.Proofs.YtaicfmmgmblmiaaW.PrintMore
set_option linter.unusedVariables false
set_option linter.unusedSimpArgs false
/-- The row holds a, a + 1, .. as bytes. -/
def Ser (y : List Int) (a : Int) : Prop := ∀ j, j < y.length → y.getD j 0 = (a + (j : Int)) % 256
theorem mark_byte_loop (len : Nat) (hz : len ≤ 1048576) (a : Int) (h0 : 0 ≤ a) (h1 : a ≤ 1000000000000000) : ∀ (n i : Nat) (z : List Int), z.length = len → i + n = len → (∀ j, j < i → z.getD j 0 = (a + (j : Int)) % 256) → ∃ y, laws_markByteS.l0 (n + 1) z (a + i) (i : Int) = some (a + len, y) ∧ y.length = len ∧ Ser y a := by
  intro n
  induction n with
  | zero =>
    intro i z hl hi hs
    obtain rfl : i = len := by omega
    refine ⟨z, ?_, hl, fun j hj => hs j (by omega)⟩
    simp only [laws_markByteS.l0]
    rw [if_neg (by omega)]
  | succ n ih =>
    intro i z hl hi hs
    obtain ⟨q, hqq⟩ : ∃ q, q = n + 1 := ⟨_, rfl⟩
    rw [← hqq] at ih ⊢
    have e1 : wrap64 ((i : Int) + 1) = ((i + 1 : Nat) : Int) := by unfold wrap64; omega
    have e2 : wrap64 (a + (i : Int) + 1) = a + ((i + 1 : Nat) : Int) := by unfold wrap64; omega
    obtain ⟨y, g1, g2, g3⟩ := ih (i + 1) (z.set i ((a + i) % 256)) (by simp [hl]) (by omega) (fun j hj => by
      by_cases e : i = j
      · subst e
        simp [List.getD, show i < z.length by omega]
      · simp only [List.getD_eq_getElem?_getD, List.getElem?_set_ne e]
        rw [← List.getD_eq_getElem?_getD]
        exact hs j (by omega))
    refine ⟨y, ?_, g2, g3⟩
    simp only [laws_markByteS.l0]
    rw [if_pos (by omega), if_pos (by omega), Int.toNat_natCast, e1, e2]
    exact g1
theorem mark_byte (z : List Int) (hz : z.length ≤ 1048576) (a : Int) (h0 : 0 ≤ a) (h1 : a ≤ 1000000000000000) : ∃ y, laws_markByteS.f (z.length + 1) z a = some (a + z.length, y) ∧ y.length = z.length ∧ Ser y a := by
  obtain ⟨y, g1, g2, g3⟩ := mark_byte_loop z.length hz a h0 h1 z.length 0 z rfl (by omega) (fun j hj => by omega)
  refine ⟨y, ?_, g2, g3⟩
  unfold laws_markByteS.f
  rw [show a + ((0 : Nat) : Int) = a by omega] at g1
  exact g1
/-- The lengths of the first j rows. -/
def tot (l : List (List Int)) : Nat → Nat
  | 0 => 0
  | j + 1 => tot l j + (l.getD j []).length
def Short2 (l : List (List Int)) : Prop := ∀ j, (l.getD j []).length ≤ 1048576
theorem tot_le {l : List (List Int)} (h : Short2 l) : ∀ j, tot l j ≤ j * 1048576
  | 0 => Nat.le_refl _
  | j + 1 => by
    have h1 := tot_le h j
    have h2 := h j
    simp only [tot]
    omega
theorem tot_eq {l l' : List (List Int)} (h : ∀ j, (l'.getD j []).length = (l.getD j []).length) : ∀ j, tot l' j = tot l j
  | 0 => rfl
  | j + 1 => by simp only [tot]; rw [tot_eq h j, h j]
def SerL (l : List (List Int)) (a : Int) (n : Nat) : Prop := ∀ j, j < n → Ser (l.getD j []) (a + (tot l j : Int))
set_option maxHeartbeats 8000000 in
set_option maxRecDepth 100000 in
theorem markSS_calls (P0 : Nat → Prop) (v : Value) (l : List (List Int)) (a1 : Int) (w0 w : World) (hB : Below w0.heap.size w0 w) (ho : Kd.S (Kd.slice 5 (Kd.int .u8)) 62 w w0.heap.size P0 v l) (hs : Short2 l) (hl : l.length ≤ 1048576) (h0 : 0 ≤ a1) (h1 : a1 ≤ 1000) :
    Calls Try.prog 45 #[v, .int .i64 a1] w fun e w' => ∃ l', e = .returned (.int .i64 (a1 + (tot l l.length : Int))) ∧ l'.length = l.length ∧ (∀ j, (l'.getD j []).length = (l.getD j []).length) ∧ SerL l' a1 l.length ∧ Kd.S (Kd.slice 5 (Kd.int .u8)) 62 w' w0.heap.size P0 v l' ∧ Below w0.heap.size w0 w' ∧ Kept w w' P0 := by
  have HB := Aside0.mk hB
  have HS0 := Aside0.mk hs
  have HL := Aside0.mk hl
  have HA := Aside0.mk (And.intro h0 h1)
  obtain ⟨A, cap, rfl⟩ := Kd.S_slice ho
  have HO := Aside0.mk ho
  clear hB hs hl h0 h1 ho
  go_enter Try.func45, Try.ntmps45
  go_wp2
  go_loopw [1, 5] (fun v1 v5 w' => ∃ (n i : Nat) (l' : List (List Int)), v1 = .int .i64 (a1 + (tot l i : Int)) ∧ v5 = .int .i64 (i : Int) ∧ Aside0 (i + n = l.length ∧ l'.length = l.length) ∧ Aside0 (∀ j, (l'.getD j []).length = (l.getD j []).length) ∧ Aside0 (SerL l' a1 i) ∧ Aside0 (Kd.S (Kd.slice 5 (Kd.int .u8)) 62 w' w0.heap.size P0 (.slice A l.length cap) l') ∧ Aside0 (Below w0.heap.size w0 w') ∧ Aside0 (Kept w w' P0)) (fun _ v5 _ => 1048577 - (intOf v5).toNat)
  case atStart => exact ⟨l.length, 0, l, by simp [tot], rfl, ⟨by omega, rfl⟩, ⟨fun _ => rfl⟩, ⟨fun j hj => by omega⟩, HO, HB, ⟨Kept.refl _ _⟩⟩
  case round =>
    obtain ⟨n, i, l', rfl, rfl, HI, HLN, HSR, HS, HBW, HK⟩ := hrel
    cases n with
    | zero =>
      have hlt : decide ((i : Int) < (l.length : Int)) = false := decide_eq_false (by have := HI.out.1; omega)
      have hlt2 : decide (i < l.length) = false := decide_eq_false (by have := HI.out.1; omega)
      have HII := Aside0.mk (show i = l.length by have := HI.out.1; omega)
      go_wp2
      go_ret
      exact ⟨l', by rw [HII.out]; rfl, HI.out.2, HLN.out, HII.out ▸ HSR.out, HS.out, HBW.out, HK.out⟩
    | succ n =>
      have hlt : decide ((i : Int) < (l.length : Int)) = true := decide_eq_true (by have := HI.out.1; omega)
      have hlt2 : decide (i < l.length) = true := decide_eq_true (by have := HI.out.1; omega)
      have hil : i < l.length := by have := HI.out.1; omega
      obtain ⟨g, cap', ev, hgb, hglt, _⟩ := Kd.S_form HS.out (by rw [HI.out.2]; omega)
      injection ev with ea en ec
      subst ea ec
      clear en
      have q0 : (0 : Int) ≤ (i : Int) := by omega
      have q1 : (i : Int) < ((l.length : Nat) : Int) := by omega
      obtain ⟨oki, cs, hcl, hM, hcc, hfr, hoki, hH⟩ := Kd.S_elem HS.out [] (i : Int) q0 (by omega)
      obtain ⟨v2, rfl, g2⟩ := hM
      have hsh : (l'.getD i []).length ≤ 1048576 := by rw [HLN.out i]; exact HS0.out i
      simp only [Int.toNat_natCast] at hcc hH hfr g2
      have HXL := Aside0.mk (HLN.out i)
      obtain ⟨X, hX⟩ : ∃ X, l'.getD i [] = X := ⟨_, rfl⟩
      rw [hX] at g2 hsh HXL
      have ht := tot_le HS0.out i
      obtain ⟨y2, hm2, hy2, hy3⟩ := mark_byte X hsh (a1 + (tot l i : Int)) (by have := HA.out; omega) (by have := HA.out; have := HL.out; omega)
      have HY := Aside0.mk (And.intro hy2 hy3)
      have HM2 := Aside0.mk hm2
      have hx0 : wr.cell? ⟨g, i, none⟩ = some v2 := by have h9 := hcc 0 _ rfl; rwa [show ((Kd.slice 5 (Kd.int .u8))).sz = 1 from rfl, Nat.mul_one, Nat.add_zero] at h9
      have hR2 := Kd.R_tight rfl g2
      obtain ⟨A2, c2, e2⟩ := Kd.R_slice g2
      subst e2
      have HR2 := Aside0.mk hR2
      have HO2 := Aside0.mk g2.1
      have HOK := Aside0.mk hoki
      have HH := Aside0.mk hH
      have HXX := Aside0.mk hX
      have HQ := Aside0.mk (And.intro hgb hil)
      have qq1 : (i < l.length) = True := eq_true hil
      have HT := Aside0.mk ht
      have hb0 : 0 ≤ a1 + (tot l i : Int) := by have := HA.out; omega
      have hle : (i : Int) ≤ 1048576 := by have := HL.out; omega
      replace q0 := eq_true q0
      replace q1 := eq_true q1
      clear hm2 hy2 hy3 hcl hcc hfr hH hR2 g2 hoki hsh hgb hglt hil hX ht
      go_wp2_with (first
        | (go_at_call 46; (with_reducible refine (laws_markByteS.calls (X.length + 1) (fun k => some k = (Value.slice A2 X.length c2).ownBlock) (.slice A2 X.length c2) X _ _ y2 w0 _ HBW.out HR2.out HM2.out).mono ?_); rintro e w3 ⟨rfl, hr2, hb3, hk3⟩;
            have HR2' := Aside0.mk (Kd.R_tight rfl hr2); have HB3 := Aside0.mk hb3; have HK3 := Aside0.mk hk3; have HH3 := Aside0.mk (Kd.H_kept HH.out hk3 (fun k _ hn hs => hn (HO2.out k hs.symm))); clear hr2 hb3 hk3))
      have hSb := Kd.H_back HH3.out (x' := y2) (okp := oki) (Kd.M_row (by have h8 := Kd.R_mono HR2'.out (fun k hk => HO2.out k hk.symm); exact h8)) (fun _ h => h)
      rw [Int.toNat_natCast] at hSb
      have HSB := Aside0.mk hSb
      have hl' : ∀ j, ((l'.set i y2).getD j []).length = (l.getD j []).length := fun j => by
        by_cases e : i = j
        · subst e
          rw [show (l'.set i y2).getD i [] = y2 by simp [List.getD, show i < l'.length by have := HI.out; have := HQ.out; omega], HY.out.1, HXL.out]
        · rw [show (l'.set i y2).getD j [] = l'.getD j [] by simp [List.getD, e]]
          exact HLN.out j
      have HLN' := Aside0.mk hl'
      have HSR' : Aside0 (SerL (l'.set i y2) a1 (i + 1)) := ⟨fun j hj => by
        rw [tot_eq HLN'.out]
        by_cases e : i = j
        · subst e
          rw [show (l'.set i y2).getD i [] = y2 by simp [List.getD, show i < l'.length by have := HI.out; have := HQ.out; omega]]
          exact HY.out.2
        · rw [show (l'.set i y2).getD j [] = l'.getD j [] by simp [List.getD, e], ← tot_eq HLN.out]
          exact HSR.out j (by omega)⟩
      clear hSb hl'
      go_roundw
      case rel => exact ⟨n, i + 1, l'.set i y2, by simp only [tot]; rw [← HXL.out]; exact congrArg (Value.int .i64) (by omega), by go_num, ⟨by have := HI.out; omega, by rw [List.length_set]; exact HI.out.2⟩, HLN', HSR', HSB, HB3, ⟨HK.out.then_ HK3.out (fun k hs => .inl (HOK.out k (HO2.out k hs.symm)).1)⟩⟩
      case measure =>
        have h8 := HQ.out
        have h9 := HL.out
        simp [intOf]; omega
set_option maxHeartbeats 8000000 in
set_option maxRecDepth 100000 in
theorem markDisk_calls (P0 : Nat → Prop) (v : Value) (l : List (List Int)) (a1 : Int) (w0 w : World) (hB : Below w0.heap.size w0 w) (ho : Kd.S (Kd.slice 5 (Kd.int .u8)) 62 w w0.heap.size P0 v l) (hs : Short2 l) (hl : l.length ≤ 1048576) (h0 : 0 ≤ a1) (h1 : a1 ≤ 1000) :
    Calls Try.prog 23 #[.agg #[v], .int .i64 a1] w fun e w' => ∃ l', e = .returned (.int .i64 (a1 + (tot l l.length : Int))) ∧ l'.length = l.length ∧ (∀ j, (l'.getD j []).length = (l.getD j []).length) ∧ SerL l' a1 l.length ∧ Kd.S (Kd.slice 5 (Kd.int .u8)) 62 w' w0.heap.size P0 v l' ∧ Below w0.heap.size w0 w' ∧ Kept w w' P0 := by
  have hu40 := Try.underlying40
  have HS0 := Aside0.mk hs
  have HL := Aside0.mk hl
  have HA := Aside0.mk (And.intro h0 h1)
  obtain ⟨A, cap, rfl⟩ := Kd.S_slice ho
  have HB := Aside0.mk (below_alloc hB (.cells #[.slice A l.length cap] 40))
  have HO := Aside0.mk (Kd.S_alloc ho (.cells #[.slice A l.length cap] 40))
  have HK := Aside0.mk (Kept.alloc (Kept.refl w P0) (.cells #[.slice A l.length cap] 40))
  clear hB hs hl h0 h1 ho
  go_enter Try.func23, Try.ntmps23
  go_wp2_with (first
    | (go_at_call 45; (with_reducible refine (markSS_calls P0 _ l a1 w0 _ HB.out HO.out HS0.out HL.out HA.out.1 HA.out.2).mono ?_); rintro e w9 ⟨l', rfl, g1, g2, g3, g4, g5, g6⟩; have HG := Aside0.mk (And.intro g1 (And.intro g2 (And.intro g3 (And.intro g4 (And.intro g5 g6))))); clear g1 g2 g3 g4 g5 g6))
  go_ret
  exact ⟨l', rfl, HG.out.1, HG.out.2.1, HG.out.2.2.1, HG.out.2.2.2.1, HG.out.2.2.2.2.1, HK.out.then_ HG.out.2.2.2.2.2 (fun _ h => .inl h)⟩
/-- The inner rows are short. -/
def ShortW (l : List S66) : Prop := ∀ j, (l.getD j z66).f1.length ≤ 1048576
theorem shortW_set {l : List S66} (h : ShortW l) (i : Nat) (x : S66) (hx : x.f1.length ≤ 1048576) : ShortW (l.set i x) := by
  intro j
  by_cases e : i = j
  · subst e
    by_cases hi : i < l.length
    · simp [List.getD, hi]; exact hx
    · have : l.set i x = l := by rw [List.set_eq_of_length_le (by omega)]
      rw [this]; exact h i
  · have : (l.set i x).getD j z66 = l.getD j z66 := by simp [List.getD, e]
    rw [this]; exact h j
set_option maxHeartbeats 8000000 in
set_option maxRecDepth 100000 in
theorem markWriteS_calls (P0 : Nat → Prop) (v : Value) (l : List S66) (a1 : Int) (w0 w : World) (hB : Below w0.heap.size w0 w) (ho : Kd.S k66 66 w w0.heap.size P0 v l) (hs : ShortW l) (hl : l.length ≤ 1048576) (h0 : 0 ≤ a1) (h1 : a1 ≤ 10000000000000) :
    Calls Try.prog 24 #[v, .int .i64 a1] w fun e w' => ∃ c : Int, e = .returned (.int .i64 c) ∧ 0 ≤ c ∧ c ≤ 100000000000000 ∧ Below w0.heap.size w0 w' ∧ Kept w w' P0 := by
  have HB := Aside0.mk hB
  have HS0 := Aside0.mk hs
  have HL := Aside0.mk hl
  have HA := Aside0.mk (And.intro h0 h1)
  obtain ⟨A, cap, rfl⟩ := Kd.S_slice ho
  have HO := Aside0.mk ho
  clear hB hs hl h0 h1 ho
  go_enter Try.func24, Try.ntmps24
  go_wp2
  go_loopw [1, 5] (fun v1 v5 w' => ∃ (n i : Nat) (c : Int) (l' : List S66), v1 = .int .i64 c ∧ v5 = .int .i64 (i : Int) ∧ Aside0 (i + n = l.length ∧ l'.length = l.length) ∧ Aside0 (0 ≤ c ∧ c ≤ 10000000000000 + (i : Int) * 3000000) ∧ Aside0 (ShortW l') ∧ Aside0 (Kd.S k66 66 w' w0.heap.size P0 (.slice A l.length cap) l') ∧ Aside0 (Below w0.heap.size w0 w') ∧ Aside0 (Kept w w' P0)) (fun _ v5 _ => 1048577 - (intOf v5).toNat)
  case atStart => exact ⟨l.length, 0, a1, l, rfl, rfl, ⟨by omega, rfl⟩, ⟨HA.out.1, by have := HA.out; omega⟩, HS0, HO, HB, ⟨Kept.refl _ _⟩⟩
  case round =>
    obtain ⟨n, i, c, l', rfl, rfl, HI, HC, HSH, HS, HBW, HK⟩ := hrel
    cases n with
    | zero =>
      have hlt : decide ((i : Int) < (l.length : Int)) = false := decide_eq_false (by have := HI.out.1; omega)
      have hlt2 : decide (i < l.length) = false := decide_eq_false (by have := HI.out.1; omega)
      go_wp2
      go_ret
      exact ⟨c, rfl, HC.out.1, by have := HC.out.2; have := HL.out; have := HI.out; omega, HBW.out, HK.out⟩
    | succ n =>
      have hlt : decide ((i : Int) < (l.length : Int)) = true := decide_eq_true (by have := HI.out.1; omega)
      have hlt2 : decide (i < l.length) = true := decide_eq_true (by have := HI.out.1; omega)
      have hil : i < l.length := by have := HI.out.1; omega
      obtain ⟨g, cap', ev, hgb, hglt, _⟩ := Kd.S_form HS.out (by rw [HI.out.2]; omega)
      injection ev with ea en ec
      subst ea ec
      clear en
      have q0 : (0 : Int) ≤ (i : Int) := by omega
      have q1 : (i : Int) < ((l.length : Nat) : Int) := by omega
      obtain ⟨oki, cs, hcl, hM, hcc, hfr, hoki, hH⟩ := Kd.S_elem HS.out z66 (i : Int) q0 (by omega)
      obtain ⟨v3, rfl, g3⟩ := k66_openM hM
      have hsh := HSH.out i
      simp only [Int.toNat_natCast] at hM hcc hH hfr g3
      generalize hX : l'.getD i z66 = X at g3 hsh hM hcc hH
      obtain ⟨y3, hm3, hy3, _⟩ := mark_byte X.f1 hsh (c + 1) (by have := HC.out; omega) (by have := HC.out; have := HL.out; omega)
      have HY := Aside0.mk hy3
      have HSX := Aside0.mk hsh
      have HM3 := Aside0.mk hm3
      have hx0 : wr.cell? ⟨g, i * 2, none⟩ = some (.int .i64 X.f0) := hcc 0 _ rfl
      have hx3 : wr.cell? ⟨g, i * 2 + 1, none⟩ = some v3 := hcc 1 _ rfl
      have hf0 : wr.frozen? ⟨g, i * 2, none⟩ = false := hfr 0
      have hH2 := (Kd.H_seg hH q0 (by omega) (seg := [.int .i64 c]) (j := 0) (by show 0 + 1 ≤ 2; decide) (by simp [Value.oneCell'])).1
      have HH2 : Aside0 (Kd.H k66 66 (wr.setCell ⟨g, i * 2, none⟩ (.int .i64 c)) w0.heap.size P0 (.slice (some ⟨g, 0, none⟩) l.length cap) l' (i : Int) oki [.int .i64 c, v3]) := ⟨hH2⟩
      have HB2 : Aside0 (Below w0.heap.size w0 (wr.setCell ⟨g, i * 2, none⟩ (.int .i64 c))) := ⟨below_set HBW.out hgb⟩
      have HK2 : Aside0 (Kept w (wr.setCell ⟨g, i * 2, none⟩ (.int .i64 c)) P0) := ⟨Kept.setCell HK.out (.inl ((Kd.S_R HS.out).1 g rfl)) _⟩
      have hR3 := Kd.R_tight rfl (Kd.R_far (p := ⟨g, i * 2, none⟩) g3 (fun k hk => (hoki k hk).2) (.int .i64 c))
      obtain ⟨A3, c3, e3⟩ := Kd.R_slice g3
      subst e3
      have HR3 := Aside0.mk hR3
      have HO3 := Aside0.mk g3.1
      have HOK := Aside0.mk hoki
      have hc0 : 0 ≤ c := HC.out.1
      have hc1 : c ≤ 100000000000000 := by have := HC.out; have := HL.out; omega
      have hs3 : ((X.f1.length : Nat) : Int) ≤ 1048576 := by have := hsh; omega
      have qq1 : (i < l.length) = True := eq_true hil
      have hle : (i : Int) ≤ 1048576 := by have := HL.out; omega
      have HQ := Aside0.mk (And.intro hgb hil)
      replace q0 := eq_true q0
      replace q1 := eq_true q1
      clear hm3 hy3 hcl hcc hfr hM hH hH2 hR3 g3 hoki hsh hgb hglt hil hX
      go_wp2_with (first
        | (go_at_call 46; (with_reducible refine (laws_markByteS.calls (X.f1.length + 1) (fun k => some k = (Value.slice A3 X.f1.length c3).ownBlock) (.slice A3 X.f1.length c3) X.f1 _ _ y3 w0 _ HB2.out HR3.out HM3.out).mono ?_); rintro e w4 ⟨rfl, hr3, hb4, hk4⟩;
            have HR3b := Aside0.mk (Kd.R_tight rfl hr3); have HB4 := Aside0.mk hb4; have HK4 := Aside0.mk hk4; have HH4 := Aside0.mk (Kd.H_kept HH2.out hk4 (fun k _ hn hs => hn (HO3.out k hs.symm))); clear hr3 hb4 hk4))
      have hSb := Kd.H_back HH4.out (x' := (⟨c, y3⟩ : S66)) (okp := oki) (k66_mkM _ _ _ (⟨c, y3⟩ : S66) (by have h8 := Kd.R_mono HR3b.out (fun k hk => HO3.out k hk.symm); exact h8)) (fun _ h => h)
      go_roundw
      case rel => exact ⟨n, i + 1, c + 1 + X.f1.length, l'.set i ⟨c, y3⟩, rfl, by go_num, ⟨by have := HI.out; omega, by rw [List.length_set]; exact HI.out.2⟩, ⟨by have := HC.out; omega, by have := HC.out; have := HSX.out; omega⟩, ⟨shortW_set HSH.out i _ (by show y3.length ≤ _; rw [HY.out]; exact HSX.out)⟩, ⟨hSb⟩, HB4, ⟨HK2.out.then_ HK4.out (fun k hs => .inl (HOK.out k (HO3.out k hs.symm)).1)⟩⟩
      case measure =>
        have h8 := HQ.out
        have h9 := HL.out
        simp [intOf]; omega
end Go.Proofs.Ytaicfmmgmblmiaa.QFnExactDiskCrash
