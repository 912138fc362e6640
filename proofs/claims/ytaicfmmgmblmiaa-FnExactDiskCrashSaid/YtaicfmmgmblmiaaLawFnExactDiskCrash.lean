/- Proved: the law FnExactDiskCrash: for every disk, list of writes and list of choices that can be read it returns true. No other conditions. -/
import Derived.Test.YtaicfmmgmblmiaaRows
import Derived.Test.YtaicfmmgmblmiaaPureDiskCrash
import Derived.Deep.Slices
import Derived.Deep.Strs
import Derived.Carry
import Derived.WalkKit
import Derived.ProofKit
import Derived.OpenShut
import Derived.ShutString
import Derived.ChangeOld
import Derived.Below
import Derived.SizedLaws
import Derived.ChangeSlices
import Derived.Lib.SmallJoins
namespace Go.Proofs.Ytaicfmmgmblmiaa.fnExactDiskCrash
open Go Go.Deep Go.ChangeShapes Go.WideShapes Go.ChangeAt Go.RowKit Go.Joins
open Go.Proofs.Ytaicfmmgmblmiaa.QFnExactDiskCrash Go.Proofs.YtaicfmmgmblmiaaW.PrintWords
set_option linter.unusedVariables false
theorem own : ownKnob Try.prog.godebug = none := by kernel_rfl
theorem laidOut : laidOutB Try.prog = true := by kernel_rfl
theorem cells5 : Try.prog.cellsOf 5 = 1 := by kernel_rfl
theorem cells3 : Try.prog.cellsOf 3 = 1 := by kernel_rfl
theorem cells62 : Try.prog.cellsOf 62 = 1 := by kernel_rfl
theorem cells34 : Try.prog.cellsOf 34 = 1 := by kernel_rfl
theorem mem_all {H : Type} {P : Program} {e : TypeId} {x : Nat} {d : DataW H} : ∀ {l : List (DataW H)}, d ∈ l → x ∈ d.weights P e → x ∈ DataW.weightsAll P e l
  | [], h, _ => by cases h
  | c :: r, h, hx => by
    unfold DataW.weightsAll
    rcases List.mem_cons.mp h with rfl | h
    · exact List.mem_append_left _ hx
    · exact List.mem_append_right _ (mem_all h hx)
/-- A length that the reading bears. -/
def Borne (n : Nat) (ws : List Nat) : Prop := n = 0 ∨ ∃ z, z ∈ ws ∧ n ≤ z
theorem Borne.up {n : Nat} {ws ws' : List Nat} (h : Borne n ws) (hs : ∀ z, z ∈ ws → z ∈ ws') : Borne n ws' := h.imp id fun ⟨z, hz, hle⟩ => ⟨z, hs z hz, hle⟩
/-- An inner row of bytes, opened. -/
theorem open_row {H : Type} {enc : TypeId × Value → H} {W : World} {base : Nat} {sp : Nat → Bool} {held : Bool} {n : Nat} {v : Value} {y : DataW H × List MemPlace} (h : DataW.trod enc Try.prog W base sp held n 62 [v] = some y) :
    ∃ (A : Option Addr) (xs : List Int) (c : Nat), v = .slice A xs.length c ∧ xs.length ≤ c ∧ Kd.C (Kd.int .u8) W A xs.length xs ∧ Borne xs.length (y.1.weights Try.prog 62) := by
  rcases open_ints Try.underlying62 Try.underlying5 cells5 h with ⟨hcs, _⟩ | ⟨a, len, cap, zs, hcs, _, hl, hm, hz, hx, hcell, _⟩
  · obtain rfl : v = .slice none 0 0 := by simpa using hcs
    exact ⟨none, [], 0, rfl, Nat.le_refl _, Kd.C_of_reads (d := (0 : Int)) (h1 := fun _ => rfl) ⟨rfl, by decide, fun h => absurd h (by decide)⟩, .inl rfl⟩
  · obtain rfl : v = .slice (some a) len cap := by simpa using hcs
    have hlz : len ≤ zs.length := by
      rw [hz]; split
      · exact hl
      · exact Nat.le_refl _
    have hlt : (zs.take len).length = len := by rw [List.length_take]; omega
    have hmx : maxLen = 9223372036854775807 := rfl
    refine ⟨some a, zs.take len, cap, by rw [hlt], by rw [hlt]; exact hl, Kd.C_of_reads (d := (0 : Int)) (h1 := fun _ => rfl) ⟨rfl, by rw [hlt]; omega, fun _ => ⟨a, rfl, fun j hj => ?_⟩⟩, .inr ?_⟩
    · rw [hlt] at hj
      have e : (zs.take len).getD j 0 = zs.getD j 0 := by simp [List.getD, hj]
      rw [e]
      exact hcell j (by omega)
    · subst hx
      refine ⟨((lits (H := H) .u8 (zs.take len)).length + (lits (H := H) .u8 (zs.drop len)).length) * Try.prog.bytesOf 5, by simp [DataW.weights, Try.underlying62], ?_⟩
      have hb : Try.prog.bytesOf 5 = 1 := by kernel_rfl
      rw [hb, hlt]
      simp [lits]
      omega
/-- The choices, opened: numbers of their kind. -/
theorem open_choices {H : Type} {enc : TypeId × Value → H} {W : World} {base b2 : Nat} {sp : Nat → Bool} {held : Bool} {v : Value} {d : DataW H} {ps : List MemPlace} (hv : Value.okWide Try.prog W .any b2 24 v)
    (h : ∃ fuel, DataW.trod enc Try.prog W base sp held fuel 24 v.cells.toList = some (d, ps)) :
    ∃ (A : Option Addr) (xs : List Int) (c : Nat), v = .slice A xs.length c ∧ xs.length ≤ c ∧ Kd.C (Kd.int .i64) W A xs.length xs ∧ ∀ i, -9223372036854775808 ≤ xs.getD i 0 ∧ xs.getD i 0 ≤ 9223372036854775807 := by
  obtain ⟨A, len, cap, rfl⟩ := okWide_slice Try.underlying24 hv
  obtain ⟨fuel, hf⟩ := h
  rcases open_ints Try.underlying24 Try.underlying3 cells3 hf with ⟨hcs, _⟩ | ⟨a, l', c', zs, hcs, _, hl, hm, hz, hx, hcell, hwf⟩
  · simp [Value.cells] at hcs
    obtain ⟨rfl, rfl, rfl⟩ := hcs
    exact ⟨none, [], 0, rfl, Nat.le_refl _, Kd.C_of_reads (d := (0 : Int)) (h1 := fun _ => rfl) ⟨rfl, by decide, fun h => absurd h (by decide)⟩, fun i => by simp [List.getD]⟩
  · simp [Value.cells] at hcs
    obtain ⟨rfl, rfl, rfl⟩ := hcs
    have hlz : len ≤ zs.length := by
      rw [hz]; split
      · exact hl
      · exact Nat.le_refl _
    have hlt : (zs.take len).length = len := by rw [List.length_take]; omega
    have hmx : maxLen = 9223372036854775807 := rfl
    refine ⟨some a, zs.take len, cap, by rw [hlt], by rw [hlt]; exact hl, Kd.C_of_reads (d := (0 : Int)) (h1 := fun _ => rfl) ⟨rfl, by rw [hlt]; omega, fun _ => ⟨a, rfl, fun j hj => ?_⟩⟩, fun i => ?_⟩
    · rw [hlt] at hj
      have e : (zs.take len).getD j 0 = zs.getD j 0 := by simp [List.getD, hj]
      rw [e]
      exact hcell j (by omega)
    · by_cases hi : i < len
      · have e : (zs.take len).getD i 0 = zs[i] := by simp [List.getD, hi, show i < zs.length by omega]
        have h9 := hwf zs[i] (List.getElem_mem _)
        rw [e]
        simp only [Lit.wf, Bool.and_eq_true, decide_eq_true_eq] at h9
        have h1 : IntKind.i64.min = -9223372036854775808 := by decide
        have h2 : IntKind.i64.max = 9223372036854775807 := by decide
        omega
      · rw [show (zs.take len).getD i 0 = 0 by simp [List.getD, List.getElem?_eq_none (show (zs.take len).length ≤ i by omega)]]
        decide
/-- A slice's elements, opened one by one (each K), are a list. -/
theorem open_many {H : Type} {enc : TypeId × Value → H} {α : Type} (z : α) (k : Kd α) (ty e sz by_ : Nat) (ht : Try.prog.underlying ty = some (.slice e)) (hC : Try.prog.cellsOf e = sz) (hk : k.sz = sz) (hby : Try.prog.bytesOf e = by_) (hb1 : 0 < by_) (R : α → List Nat → Prop) (hR : ∀ s ws ws', R s ws → (∀ z, z ∈ ws → z ∈ ws') → R s ws') (hz0 : ∀ ws, R z ws)
    {W : World} {base : Nat} {sp : Nat → Bool} {held : Bool}
    (hone : ∀ {n : Nat} {cs : List Value} {x : DataW H × List MemPlace}, cs.length = sz → DataW.trod enc Try.prog W base sp held n e cs = some x → ∃ s : α, k.K W s cs ∧ R s (x.1.weights Try.prog e))
    {A : Option Addr} {len cap fuel : Nat} {x : DataW H × List MemPlace} (h : DataW.trod enc Try.prog W base sp held fuel ty [.slice A len cap] = some x) :
    ∃ l : List α, l.length = len ∧ len ≤ cap ∧ k.C W A len l ∧ Borne len (x.1.weights Try.prog ty) ∧ ∀ i, R (l.getD i z) (x.1.weights Try.prog ty) := by
  rcases Go.Deep.open_slice ht h with ⟨hcs, _⟩ | ⟨a, l', c', m, n, DD, Pl, hcs, _, hl, hm, hmm, hx, hi⟩
  · simp at hcs
    obtain ⟨rfl, rfl, rfl⟩ := hcs
    exact ⟨[], rfl, Nat.le_refl _, ⟨rfl, by decide, fun h => absurd h (by decide)⟩, .inl rfl, fun i => by rw [show ([] : List α).getD i z = z by simp [List.getD]]; exact hz0 _⟩
  · simp at hcs
    obtain ⟨rfl, rfl, rfl⟩ := hcs
    subst hx
    have hml : len ≤ m := by
      rw [hmm]; split
      · exact hl
      · exact Nat.le_refl _
    have each : ∀ i, ∃ s : α, i < len → R s ((DD i).weights Try.prog e) ∧ ∃ cs, cs.length = sz ∧ k.K W s cs ∧ ∀ j u, cs[j]? = some u → W.cell? (a.add (i * sz + j)) = some u := by
      intro i
      by_cases hlt : i < len
      · obtain ⟨cs', hc, ht'⟩ := hi i (by omega)
        rw [hC] at hc
        obtain ⟨_, hlen, hat⟩ := World.cells?_some hc
        obtain ⟨s, h1, h2⟩ := hone hlen ht'
        refine ⟨s, fun _ => ⟨h2, cs', hlen, h1, fun j u hu => ?_⟩⟩
        have hj := (List.getElem?_eq_some_iff.1 hu).1
        have e := hat j (by omega)
        rw [← hu, ← e, Go.Deep.add_add]
      · exact ⟨z, fun h => absurd h hlt⟩
    obtain ⟨F, hF⟩ : ∃ F : Nat → α, ∀ i, i < len → R (F i) ((DD i).weights Try.prog e) ∧ ∃ cs, cs.length = sz ∧ k.K W (F i) cs ∧ ∀ j u, cs[j]? = some u → W.cell? (a.add (i * sz + j)) = some u := ⟨fun i => Classical.choose (each i), fun i => Classical.choose_spec (each i)⟩
    have hlen : ((List.range len).map F).length = len := by simp
    have up : ∀ i, i < len → ∀ z, z ∈ (DD i).weights Try.prog e → z ∈ (DataW.slice ((List.range len).map DD) ((List.range (m - len)).map fun j => DD (len + j))).weights Try.prog ty := fun i hlt z hz => by
      simp only [DataW.weights, ht]
      exact List.mem_cons_of_mem _ (List.mem_append_left _ (mem_all (d := DD i) (List.mem_map.2 ⟨i, List.mem_range.2 hlt, rfl⟩) hz))
    refine ⟨(List.range len).map F, hlen, hl, ⟨hlen, by have : maxLen = 9223372036854775807 := rfl; omega, fun _ => ⟨a, rfl, fun j p hp => ?_⟩⟩, .inr ⟨_, by simp only [DataW.weights, ht]; exact List.mem_cons_self, ?_⟩, fun i => ?_⟩
    · have hj : j < len := by
        have := (List.getElem?_eq_some_iff.1 hp).1
        rw [hlen] at this; exact this
      have hpe : p = F j := by
        rw [List.getElem?_map, List.getElem?_range hj] at hp
        exact (Option.some.inj hp).symm
      subst hpe
      obtain ⟨_, cs, hcl, hK, hcell⟩ := hF j hj
      rw [hk]
      exact ⟨cs, hcl, hK, hcell⟩
    · rw [hby, List.length_map, List.length_range]
      exact Nat.le_trans (Nat.le_add_right _ _) (Nat.le_mul_of_pos_right _ hb1)
    · by_cases hlt : i < len
      · have e : ((List.range len).map F).getD i z = F i := by simp [List.getD, hlt]
        rw [e]
        exact hR _ _ _ (hF i hlt).1 (up i hlt)
      · rw [show ((List.range len).map F).getD i z = z by simp [List.getD, Nat.le_of_not_lt hlt]]
        exact hz0 _
/-- The disk, opened. -/
theorem open_disk {H : Type} {enc : TypeId × Value → H} {W : World} {base b2 : Nat} {sp : Nat → Bool} {held : Bool} {v : Value} {d : DataW H} {ps : List MemPlace} (hv : Value.okWide Try.prog W .any b2 36 v)
    (h : ∃ fuel, DataW.trod enc Try.prog W base sp held fuel 36 v.cells.toList = some (d, ps)) :
    ∃ (A : Option Addr) (l : List (List Int)) (cap : Nat), v = .agg #[.slice A l.length cap] ∧ l.length ≤ cap ∧ Kd.C (Kd.slice 5 (Kd.int .u8)) W A l.length l ∧ Borne l.length (d.weights Try.prog 36) ∧ ∀ i, Borne (l.getD i []).length (d.weights Try.prog 36) := by
  obtain ⟨cs, rfl, hcs⟩ := okWide_struct Try.underlying36 hv
  obtain ⟨fuel, hf⟩ := h
  have hc36 : Try.prog.cellsOf 36 = 1 := by kernel_rfl
  rw [hc36] at hcs
  obtain ⟨y0, n, hx, _, h0⟩ := trod_struct1 Try.underlying36 hf
  obtain ⟨c0, rfl⟩ : ∃ c, cs = #[c] := by
    match cs, hcs with
    | ⟨[c]⟩, _ => exact ⟨c, rfl⟩
  simp only [Value.cells, cells34, List.drop_zero, List.take_succ_cons, List.take_zero] at h0
  obtain ⟨rfl, _⟩ := Prod.mk.inj hx
  obtain ⟨A, len, cap, rfl⟩ : ∃ A len cap, c0 = .slice A len cap := by
    rcases Go.Deep.open_slice Try.underlying34 h0 with ⟨hcs, _⟩ | ⟨a, l', c', m, n, DD, Pl, hcs, _⟩
    · exact ⟨none, 0, 0, by simpa using hcs⟩
    · exact ⟨_, _, _, by simpa using hcs⟩
  obtain ⟨l, rfl, hl, hC, hB, hall⟩ := open_many (H := H) (enc := enc) ([] : List Int) (Kd.slice 5 (Kd.int .u8)) 34 62 1 24 Try.underlying34 cells62 rfl (by kernel_rfl) (by decide) (fun s ws => Borne s.length ws) (fun s ws ws' h hs => h.up hs) (fun ws => .inl rfl)
    (fun {n cs x} hl ht => by
      match cs, hl with
      | [c], _ =>
        obtain ⟨A, xs, c', rfl, l1, g1, b1⟩ := open_row ht
        exact ⟨xs, ⟨A, c', rfl, l1, g1⟩, b1⟩) h0
  have up : ∀ z, z ∈ y0.1.weights Try.prog 34 → z ∈ (DataW.agg [y0.1]).weights Try.prog 36 := fun z hz => by
    have hm : z ∈ DataW.weightsEach Try.prog [34] [y0.1] := DataW.weights_mem_each (j := 0) (t := 34) rfl rfl _ hz
    simpa [DataW.weights, Try.underlying36] using hm
  exact ⟨A, l, cap, rfl, hl, hC, hB.up up, fun i => (hall i).up up⟩
/-- The writes, opened. -/
theorem open_writes {H : Type} {enc : TypeId × Value → H} {W : World} {base b2 : Nat} {sp : Nat → Bool} {held : Bool} {v : Value} {d : DataW H} {ps : List MemPlace} (hv : Value.okWide Try.prog W .any b2 37 v)
    (h : ∃ fuel, DataW.trod enc Try.prog W base sp held fuel 37 v.cells.toList = some (d, ps)) :
    ∃ (A : Option Addr) (l : List S64) (cap : Nat), v = .slice A l.length cap ∧ l.length ≤ cap ∧ Kd.C k64 W A l.length l ∧ Borne l.length (d.weights Try.prog 37) ∧ ∀ i, Borne (l.getD i z64).f1.length (d.weights Try.prog 37) := by
  obtain ⟨A, len, cap, rfl⟩ := okWide_slice Try.underlying37 hv
  obtain ⟨fuel, hf⟩ := h
  obtain ⟨l, rfl, hl, hC, hB, hall⟩ := open_many (H := H) (enc := enc) z64 k64 37 64 2 32 Try.underlying37 (by kernel_rfl) rfl (by kernel_rfl) (by decide) (fun s ws => Borne s.f1.length ws) (fun s ws ws' h hs => h.up hs) (fun ws => .inl rfl)
    (fun {n cs x} hl ht => by
      obtain ⟨y0, y1, m, rfl, _, h0, h1⟩ := trod_struct2 Try.underlying64 ht
      match cs, hl with
      | [c0, c1], _ =>
        simp only [cells3, cells62, List.drop_zero, List.drop_succ_cons, List.take_succ_cons, List.take_zero] at h0 h1
        obtain ⟨f0, e0, rfl, w0⟩ := DataW.trod_int Try.underlying3 h0
        obtain ⟨A1, x1, k1, rfl, l1, g1, b1⟩ := open_row h1
        simp only [List.cons.injEq, and_true] at e0
        subst e0
        refine ⟨⟨f0, x1⟩, k64_mk _ ⟨f0, x1⟩ l1 g1, b1.up fun z hz => ?_⟩
        have hm : z ∈ DataW.weightsEach Try.prog [3, 62] [DataW.lit (H := H) (Lit.int IntKind.i64 f0), y1.1] := DataW.weights_mem_each (j := 1) (t := 62) rfl rfl _ hz
        simpa [DataW.weights, Try.underlying64] using hm) hf
  exact ⟨A, l, cap, rfl, hl, hC, hB, hall⟩
set_option maxRecDepth 100000 in
theorem lifted (os : Os) (started : os.Started) (H : Type) (enc : TypeId × Value → H) :
    ReturnsInHanded {} Try.checked os 4 .any (Rows.fnExactDiskCrashSpec.pre6 enc Try.prog Try.f4 Rows.fnExactDiskCrashRow.domain false) (Rows.fnExactDiskCrashSpec.post enc Try.prog Try.f4 false true false false) := by
  refine returnsInHanded_of_change_sized (C := Try.checked) own started (by kernel_rfl) Try.func4
    (ChangeSpec.witness6 (enc := enc) (C := Try.checked) false ⟨#[], #[.agg #[.slice none 0 0], .slice none 0 0, .slice none 0 0], []⟩ 8 (by kernel_rfl) (by kernel_rfl) (by kernel_rfl) (by kernel_rfl)) ?_
  intro W base args ds gs before hval0 hW hcnd hsz0 _
  have hsz : (DataW.weightsEach Try.prog (Try.f4.params.toList ++ Rows.fnExactDiskCrashSpec.plain.varTypes Try.prog) (ds ++ gs)).all (· ≤ reachBytes) = true := hsz0
  have hval : ∀ (j : Nat) t v, Try.f4.params[j]? = some t → args[j]? = some v → Value.okWide Try.prog W .any base t v := hval0
  have hW' := hW
  obtain ⟨p, q, hA0, hV, rfl, hfz, hnd⟩ := hW
  have hA : DataW.TrodAll enc Try.prog W 0 (fun _ => true) true Try.f4.params.toList args.toList ds p := hA0
  rw [Try.params4] at hA hval hsz
  obtain ⟨v0, v1, v2, d0, d1, d2, p0, p1, p2, rfl, rfl, rfl, h0, h1, h2⟩ := trodAll_three hA
  obtain ⟨rfl, rfl⟩ := trodVars_none hV
  have k0 := h0
  have k1 := h1
  have k2 := h2
  have lt0 : ∀ x ∈ p0, x.block < W.heap.size := by obtain ⟨m, hm⟩ := k0; exact DataW.trod_lt m _ _ _ hm
  have lt1 : ∀ x ∈ p1, x.block < W.heap.size := by obtain ⟨m, hm⟩ := k1; exact DataW.trod_lt m _ _ _ hm
  have lt2 : ∀ x ∈ p2, x.block < W.heap.size := by obtain ⟨m, hm⟩ := k2; exact DataW.trod_lt m _ _ _ hm
  obtain ⟨A0, l0, cap0, rfl, hl0, hC0, hb0, hall0⟩ := open_disk (hval 0 36 v0 rfl rfl) h0
  obtain ⟨A1, l1, cap1, rfl, hl1, hC1, hb1, hall1⟩ := open_writes (hval 1 37 v1 rfl rfl) h1
  obtain ⟨A2, l2, cap2, rfl, hl2, hC2, hcs⟩ := open_choices (hval 2 24 v2 rfl rfl) h2
  have small : ∀ n : Nat, (Borne n (d0.weights Try.prog 36) ∨ Borne n (d1.weights Try.prog 37)) → n ≤ 281474976710656 := by
    intro n hn
    have h4 : reachBytes = 140737488351232 := by decide
    rcases hn with (hn | ⟨z, hz, hle⟩) | (hn | ⟨z, hz, hle⟩)
    · omega
    · have h2 : z ≤ reachBytes := of_decide_eq_true (List.all_eq_true.1 hsz _ (DataW.weights_mem_each (j := 0) (t := 36) rfl rfl _ hz))
      omega
    · omega
    · have h2 : z ≤ reachBytes := of_decide_eq_true (List.all_eq_true.1 hsz _ (DataW.weights_mem_each (j := 1) (t := 37) rfl rfl _ hz))
      omega
  clear hA0 hval0 hsz0 hsz
  have fin := PureDiskCrash.law_all l0 l1 l2 (small _ (.inl hb0)) (fun i => small _ (.inl (hall0 i))) (small _ (.inr hb1)) (fun i => small _ (.inr (hall1 i))) hcs A0 cap0 A1 cap1 A2 cap2 W hC0 hl0 hC1 hl1 hC2 hl2
  refine fin.mono fun e W' ⟨he, bel⟩ => ?_
  subst he
  exact ⟨_, rfl, _, _, _, [], _, [], hW', trodAll_mk1 (shut_bool Try.underlying4 _), (trodAll_cons_mk (Below.trod laidOut (by kernel_rfl) (of_decide_eq_true (by kernel_rfl)) k0 bel lt0) (trodAll_cons_mk (Below.trod laidOut (by kernel_rfl) (of_decide_eq_true (by kernel_rfl)) k1 bel lt1) (trodAll_cons_mk (Below.trod laidOut (by kernel_rfl) (of_decide_eq_true (by kernel_rfl)) k2 bel lt2) trodAll_mk0))), rfl, bel.frame _, fun h => by cases h⟩
theorem proved : Rows.FnExactDiskCrashSaid :=
  OpenClaim.holds_of_wide 4 Try.f4 rfl rfl rfl rfl rfl rfl rfl ⟨rfl, rfl, rfl, rfl, rfl⟩ rfl rfl rfl rfl rfl (by kernel_rfl) Try.func4 (by kernel_rfl)
    (of_decide_eq_true (by kernel_rfl)) (by unfold Func.isWrapper; first | (rw [if_pos (by decide +kernel)]; kernel_rfl) | (rw [if_neg (by decide +kernel)]; exact ⟨rfl, rfl⟩))
    (fun os started H enc _ => lifted os started H enc)
#print axioms proved
end Go.Proofs.Ytaicfmmgmblmiaa.fnExactDiskCrash
namespace Go.Proofs.Ytaicfmmgmblmiaa
/-- The row, under a short name, for the claim. -/
theorem fnExactDiskCrash_holds : Rows.FnExactDiskCrashSaid := fnExactDiskCrash.proved
end Go.Proofs.Ytaicfmmgmblmiaa
