/- Proved: the law FnExactSerialOrder: for every history that can be read it returns true. No other conditions. -/
import Derived.Test.YtaicfmmgmblmiaaRows
import Derived.Test.YtaicfmmgmblmiaaPureSerialOrder
import Derived.Deep.Slices
import Derived.Deep.Strs
import Derived.Carry
import Derived.WalkKit
import Derived.ProofKit
import Derived.OpenShut
import Derived.ShutString
import Derived.ChangeOld
import Derived.Below
import Derived.SizedLaws
import Derived.ChangeSlices
import Derived.Lib.SmallJoins
namespace Go.Proofs.Ytaicfmmgmblmiaa.fnExactSerialOrder
open Go Go.Deep Go.ChangeShapes Go.WideShapes Go.ChangeAt Go.RowKit Go.Joins
open Go.Proofs.Ytaicfmmgmblmiaa.QFnExactSerialOrder Go.Proofs.YtaicfmmgmblmiaaW.PrintWords
set_option linter.unusedVariables false
theorem own : ownKnob Try.prog.godebug = none := by kernel_rfl
theorem laidOut : laidOutB Try.prog = true := by kernel_rfl
theorem cells1 : Try.prog.cellsOf 3 = 1 ∧ Try.prog.cellsOf 24 = 1 := ⟨by kernel_rfl, by kernel_rfl⟩
theorem mem_all {H : Type} {P : Program} {e : TypeId} {x : Nat} {d : DataW H} : ∀ {l : List (DataW H)}, d ∈ l → x ∈ d.weights P e → x ∈ DataW.weightsAll P e l
  | [], h, _ => by cases h
  | c :: r, h, hx => by
    unfold DataW.weightsAll
    rcases List.mem_cons.mp h with rfl | h
    · exact List.mem_append_left _ hx
    · exact List.mem_append_right _ (mem_all h hx)
/-- An inner row, opened. -/
theorem open_row {H : Type} {enc : TypeId × Value → H} {W : World} {base : Nat} {sp : Nat → Bool} {held : Bool} {n : Nat} {v : Value} {y : DataW H × List MemPlace} (h : DataW.trod enc Try.prog W base sp held n 24 [v] = some y) :
    ∃ (A : Option Addr) (xs : List Int) (c : Nat), v = .slice A xs.length c ∧ xs.length ≤ c ∧ Kd.C (Kd.int .i64) W A xs.length xs ∧ (xs.length = 0 ∨ ∃ z, z ∈ y.1.weights Try.prog 24 ∧ xs.length ≤ z) := by
  rcases open_ints Try.underlying24 Try.underlying3 cells1.1 h with ⟨hcs, _⟩ | ⟨a, len, cap, zs, hcs, _, hl, hm, hz, hx, hcell, _⟩
  · obtain rfl : v = .slice none 0 0 := by simpa using hcs
    exact ⟨none, [], 0, rfl, Nat.le_refl _, Kd.C_of_reads (d := (0 : Int)) (h1 := fun _ => rfl) ⟨rfl, by decide, fun h => absurd h (by decide)⟩, .inl rfl⟩
  · obtain rfl : v = .slice (some a) len cap := by simpa using hcs
    have hlz : len ≤ zs.length := by
      rw [hz]; split
      · exact hl
      · exact Nat.le_refl _
    have hlt : (zs.take len).length = len := by rw [List.length_take]; omega
    have hmx : maxLen = 9223372036854775807 := rfl
    refine ⟨some a, zs.take len, cap, by rw [hlt], by rw [hlt]; exact hl, Kd.C_of_reads (d := (0 : Int)) (h1 := fun _ => rfl) ⟨rfl, by rw [hlt]; omega, fun _ => ⟨a, rfl, fun j hj => ?_⟩⟩, .inr ?_⟩
    · rw [hlt] at hj
      have e : (zs.take len).getD j 0 = zs.getD j 0 := by simp [List.getD, hj]
      rw [e]
      exact hcell j (by omega)
    · subst hx
      refine ⟨((lits (H := H) .i64 (zs.take len)).length + (lits (H := H) .i64 (zs.drop len)).length) * Try.prog.bytesOf 3, by simp [DataW.weights, Try.underlying24], ?_⟩
      have hb : Try.prog.bytesOf 3 = 8 := by kernel_rfl
      rw [hb, hlt]
      simp [lits]
      omega
/-- What is known of one element. -/
def OneAt (W : World) (a : Addr) (ws : List Nat) (i : Nat) (s : S54) : Prop :=
  ∃ A2 c2 A3 c3, (∀ j u, [Value.int .i64 s.f0, .int .i64 s.f1, .slice A2 s.f2.length c2, .slice A3 s.f3.length c3][j]? = some u → W.cell? (a.add (i * 4 + j)) = some u) ∧
    s.f2.length ≤ c2 ∧ Kd.C (Kd.int .i64) W A2 s.f2.length s.f2 ∧ s.f3.length ≤ c3 ∧ Kd.C (Kd.int .i64) W A3 s.f3.length s.f3 ∧ (s.f2.length = 0 ∨ ∃ z, z ∈ ws ∧ s.f2.length ≤ z) ∧ (s.f3.length = 0 ∨ ∃ z, z ∈ ws ∧ s.f3.length ≤ z)
/-- One element, opened. -/
theorem open_one {H : Type} {enc : TypeId × Value → H} {W : World} {base : Nat} {sp : Nat → Bool} {held : Bool} {a : Addr} {i n : Nat} {cs : List Value} {x : DataW H × List MemPlace}
    (hc : W.cells? base (a.add (i * 4)) 4 = some cs) (h : DataW.trod enc Try.prog W base sp held n 54 cs = some x) : ∃ s : S54, OneAt W a (x.1.weights Try.prog 54) i s := by
  obtain ⟨y0, y1, y2, y3, m, rfl, hl, h0, h1, h2, h3⟩ := trod_struct4 Try.underlying54 h
  obtain ⟨_, hlen, hat⟩ := World.cells?_some hc
  match cs, hlen with
  | [c0, c1, c2, c3], _ =>
    simp only [cells1.1, cells1.2, List.drop_zero, List.drop_succ_cons, List.take_succ_cons, List.take_zero] at h0 h1 h2 h3
    obtain ⟨f0, e0, rfl, w0⟩ := DataW.trod_int Try.underlying3 h0
    obtain ⟨f1, e1, rfl, w1⟩ := DataW.trod_int Try.underlying3 h1
    obtain ⟨A2, x2, k2, rfl, l2, g2, z2⟩ := open_row h2
    obtain ⟨A3, x3, k3, rfl, l3, g3, z3⟩ := open_row h3
    simp only [List.cons.injEq, and_true] at e0 e1
    subst e0 e1
    refine ⟨⟨f0, f1, x2, x3⟩, A2, k2, A3, k3, fun j u hu => ?_, l2, g2, l3, g3, z2.imp id fun ⟨z, hz, hle⟩ => ⟨z, ?_, hle⟩, z3.imp id fun ⟨z, hz, hle⟩ => ⟨z, ?_, hle⟩⟩
    · have hj : j < 4 := (List.getElem?_eq_some_iff.1 hu).1
      have e := hat j hj
      rw [← hu]
      rw [← e, Go.Deep.add_add]
    · have hm : z ∈ DataW.weightsEach Try.prog [3, 3, 24, 24] [DataW.lit (H := H) (Lit.int IntKind.i64 f0), DataW.lit (Lit.int IntKind.i64 f1), y2.1, y3.1] := DataW.weights_mem_each (j := 2) (t := 24) rfl rfl _ hz
      simpa [DataW.weights, Try.underlying54] using hm
    · have hm : z ∈ DataW.weightsEach Try.prog [3, 3, 24, 24] [DataW.lit (H := H) (Lit.int IntKind.i64 f0), DataW.lit (Lit.int IntKind.i64 f1), y2.1, y3.1] := DataW.weights_mem_each (j := 3) (t := 24) rfl rfl _ hz
      simpa [DataW.weights, Try.underlying54] using hm
/-- The history, opened. -/
theorem open_history {H : Type} {enc : TypeId × Value → H} {W : World} {base b2 : Nat} {sp : Nat → Bool} {held : Bool} {v : Value} {d : DataW H} {ps : List MemPlace} (hv : Value.okWide Try.prog W .any b2 22 v)
    (h : ∃ fuel, DataW.trod enc Try.prog W base sp held fuel 22 v.cells.toList = some (d, ps)) :
    ∃ (A : Option Addr) (l : List S54) (cap : Nat), v = .slice A l.length cap ∧ l.length ≤ cap ∧ Kd.C k54 W A l.length l ∧ (l.length = 0 ∨ ∃ z, z ∈ d.weights Try.prog 22 ∧ l.length ≤ z) ∧
      ∀ i, i < l.length → ((l.getD i z54).f2.length = 0 ∨ ∃ z, z ∈ d.weights Try.prog 22 ∧ (l.getD i z54).f2.length ≤ z) ∧ ((l.getD i z54).f3.length = 0 ∨ ∃ z, z ∈ d.weights Try.prog 22 ∧ (l.getD i z54).f3.length ≤ z) := by
  obtain ⟨A, len, cap, rfl⟩ := okWide_slice Try.underlying22 hv
  obtain ⟨fuel, hf⟩ := h
  rcases Go.Deep.open_slice Try.underlying22 hf with ⟨hcs, _⟩ | ⟨a, l', c', m, n, DD, Pl, hcs, _, hl, hm, hmm, hx, hi⟩
  · simp [Value.cells] at hcs
    obtain ⟨rfl, rfl, rfl⟩ := hcs
    exact ⟨none, [], 0, rfl, Nat.le_refl _, ⟨rfl, by decide, fun h => absurd h (by decide)⟩, .inl rfl, fun i h => absurd h (Nat.not_lt_zero _)⟩
  · simp [Value.cells] at hcs
    obtain ⟨rfl, rfl, rfl⟩ := hcs
    obtain ⟨rfl, _⟩ := Prod.mk.inj hx
    have hml : len ≤ m := by
      rw [hmm]; split
      · exact hl
      · exact Nat.le_refl _
    have hC : Try.prog.cellsOf 54 = 4 := by kernel_rfl
    have each : ∀ i, ∃ s : S54, i < len → OneAt W a ((DD i).weights Try.prog 54) i s := by
      intro i
      by_cases hlt : i < len
      · obtain ⟨cs', hc, ht⟩ := hi i (by omega)
        rw [hC] at hc
        obtain ⟨s, h1⟩ := open_one hc ht
        exact ⟨s, fun _ => h1⟩
      · exact ⟨z54, fun h => absurd h hlt⟩
    obtain ⟨F, hF⟩ : ∃ F : Nat → S54, ∀ i, i < len → OneAt W a ((DD i).weights Try.prog 54) i (F i) := ⟨fun i => Classical.choose (each i), fun i => Classical.choose_spec (each i)⟩
    have hlen : ((List.range len).map F).length = len := by simp
    refine ⟨some a, (List.range len).map F, cap, by rw [hlen], by rw [hlen]; exact hl, ⟨rfl, by rw [hlen]; have : maxLen = 9223372036854775807 := rfl; omega, fun _ => ⟨a, rfl, fun j p hp => ?_⟩⟩, .inr ⟨_, by simp only [DataW.weights, Try.underlying22]; exact List.mem_cons_self, ?_⟩, fun i hlt => ?_⟩
    · have hj : j < len := by
        have := (List.getElem?_eq_some_iff.1 hp).1
        rw [hlen] at this; exact this
      have hpe : p = F j := by
        rw [List.getElem?_map, List.getElem?_range hj] at hp
        exact (Option.some.inj hp).symm
      subst hpe
      obtain ⟨A2, c2, A3, c3, hcell, l2, g2, l3, g3, _⟩ := hF j hj
      exact ⟨_, rfl, k54_mk W _ l2 g2 l3 g3, hcell⟩
    · have hb : Try.prog.bytesOf 54 = 64 := by kernel_rfl
      rw [hb, hlen, List.length_map, List.length_range]
      omega
    · rw [hlen] at hlt
      have e : ((List.range len).map F).getD i z54 = F i := by simp [List.getD, hlt]
      rw [e]
      obtain ⟨_, _, _, _, _, _, _, _, _, z2, z3⟩ := hF i hlt
      have up : ∀ z, z ∈ (DD i).weights Try.prog 54 → z ∈ (DataW.slice ((List.range len).map DD) ((List.range (m - len)).map fun j => DD (len + j))).weights Try.prog 22 := fun z hz => by
        simp only [DataW.weights, Try.underlying22]
        exact List.mem_cons_of_mem _ (List.mem_append_left _ (mem_all (d := DD i) (List.mem_map.2 ⟨i, List.mem_range.2 hlt, rfl⟩) hz))
      exact ⟨z2.imp id fun ⟨z, hz, hle⟩ => ⟨z, up z hz, hle⟩, z3.imp id fun ⟨z, hz, hle⟩ => ⟨z, up z hz, hle⟩⟩
set_option maxRecDepth 100000 in
theorem lifted (os : Os) (started : os.Started) (H : Type) (enc : TypeId × Value → H) :
    ReturnsInHanded {} Try.checked os 3 .any (Rows.fnExactSerialOrderSpec.pre6 enc Try.prog Try.f3 Rows.fnExactSerialOrderRow.domain false) (Rows.fnExactSerialOrderSpec.post enc Try.prog Try.f3 false true false false) := by
  refine returnsInHanded_of_change_sized (C := Try.checked) own started (by kernel_rfl) Try.func3
    (ChangeSpec.witness6 (enc := enc) (C := Try.checked) false ⟨#[], #[.slice none 0 0], []⟩ 8 (by kernel_rfl) (by kernel_rfl) (by kernel_rfl) (by kernel_rfl)) ?_
  intro W base args ds gs before hval0 hW hcnd hsz0 _
  have hsz : (DataW.weightsEach Try.prog (Try.f3.params.toList ++ Rows.fnExactSerialOrderSpec.plain.varTypes Try.prog) (ds ++ gs)).all (· ≤ reachBytes) = true := hsz0
  have hval : ∀ (j : Nat) t v, Try.f3.params[j]? = some t → args[j]? = some v → Value.okWide Try.prog W .any base t v := hval0
  have hW' := hW
  obtain ⟨p, q, hA0, hV, rfl, hfz, hnd⟩ := hW
  have hA : DataW.TrodAll enc Try.prog W 0 (fun _ => true) true Try.f3.params.toList args.toList ds p := hA0
  rw [Try.params3] at hA hval hsz
  obtain ⟨v0, d0, rfl, rfl, h0⟩ := trodAll_one hA
  obtain ⟨rfl, rfl⟩ := trodVars_none hV
  have k0 := h0
  have lt0 : ∀ x ∈ p, x.block < W.heap.size := by obtain ⟨m, hm⟩ := k0; exact DataW.trod_lt m _ _ _ hm
  obtain ⟨A, l, cap, rfl, hlc, hC, hz, hall⟩ := open_history (hval 0 22 v0 rfl rfl) h0
  have small : ∀ n : Nat, (n = 0 ∨ ∃ z, z ∈ d0.weights Try.prog 22 ∧ n ≤ z) → n ≤ 281474976710656 := by
    intro n hn
    rcases hn with hn | ⟨z, hz, hle⟩
    · omega
    · have h2 : z ≤ reachBytes := of_decide_eq_true (List.all_eq_true.1 hsz _ (DataW.weights_mem_each (j := 0) (t := 22) rfl rfl _ hz))
      have h4 : reachBytes = 140737488351232 := by decide
      omega
  clear hA0 hval0 hsz0 hsz
  have fin : Calls Try.prog 3 #[.slice A l.length cap] W fun e W' => e = .returned (.bool true) ∧ Below W.heap.size W W' := by
    rcases PureSerialOrder.all_told l (small _ hz) (fun i hi => ⟨small _ (hall i hi).1, small _ (hall i hi).2⟩) with ⟨k, t, h1, h2⟩ | ⟨k, t, l2, ro, rc, m, y, h1, h2, h3, h4, h5, h6, h7, h8, h9, h10, h11, h12, h13⟩
    · exact law_none k A cap l t W hC hlc h1 h2
    · exact law_true k A cap l t l2 ro rc m y W hC hlc h1 h2 h3 h4 h5 h6 h7 h8 h9 h10 h11 h12 h13
  refine fin.mono fun e W' ⟨he, bel⟩ => ?_
  subst he
  exact ⟨_, rfl, _, _, _, [], _, [], hW', trodAll_mk1 (shut_bool Try.underlying4 _), (trodAll_cons_mk (Below.trod laidOut (by kernel_rfl) (of_decide_eq_true (by kernel_rfl)) k0 bel lt0) trodAll_mk0), rfl, bel.frame _, fun h => by cases h⟩
theorem proved : Rows.FnExactSerialOrderSaid :=
  OpenClaim.holds_of_wide 3 Try.f3 rfl rfl rfl rfl rfl rfl rfl ⟨rfl, rfl, rfl, rfl, rfl⟩ rfl rfl rfl rfl rfl (by kernel_rfl) Try.func3 (by kernel_rfl)
    (of_decide_eq_true (by kernel_rfl)) (by unfold Func.isWrapper; first | (rw [if_pos (by decide +kernel)]; kernel_rfl) | (rw [if_neg (by decide +kernel)]; exact ⟨rfl, rfl⟩))
    (fun os started H enc _ => lifted os started H enc)
#print axioms proved
end Go.Proofs.Ytaicfmmgmblmiaa.fnExactSerialOrder
namespace Go.Proofs.Ytaicfmmgmblmiaa
/-- The row, under a short name, for the claim. -/
theorem fnExactSerialOrder_holds : Rows.FnExactSerialOrderSaid := fnExactSerialOrder.proved
end Go.Proofs.Ytaicfmmgmblmiaa
