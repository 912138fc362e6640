/- Proved: the law FnExactSafePlan: for all arguments that can be read it returns true. No other conditions. -/
import Derived.Test.YtphlfmgllbpbhaaRows
import Derived.Test.YtphlfmgllbpbhaaLpl
import Derived.Deep.Slices
import Derived.Deep.Strs
import Derived.Carry
import Derived.WalkKit
import Derived.ProofKit
import Derived.OpenShut
import Derived.ShutString
import Derived.ChangeOld
import Derived.Below
import Derived.SizedLaws
import Derived.ChangeSlices
import Derived.Lib.SmallJoins
namespace Go.Proofs.Ytphlfmgllbpbhaa.fnExactSafePlan
open Go Go.Deep Go.ChangeShapes Go.WideShapes Go.ChangeAt Go.RowKit Go.Joins
open Go.Proofs.Ytphlfmgllbpbhaa.QFnExactSafePlan Go.Proofs.YtphlfmgllbpbhaaW.PrintWords
set_option linter.unusedVariables false
set_option linter.unusedSimpArgs false
theorem own : ownKnob Try.prog.godebug = none := by kernel_rfl
theorem laidOut : laidOutB Try.prog = true := by kernel_rfl
theorem cells3 : Try.prog.cellsOf 3 = 1 := by kernel_rfl
theorem cells4 : Try.prog.cellsOf 4 = 1 := by kernel_rfl
theorem cells9 : Try.prog.cellsOf 9 = 1 := by kernel_rfl
theorem cells22 : Try.prog.cellsOf 22 = 1 := by kernel_rfl
theorem cells24 : Try.prog.cellsOf 24 = 1 := by kernel_rfl
theorem cells35 : Try.prog.cellsOf 35 = 1 := by kernel_rfl
theorem cells56 : Try.prog.cellsOf 56 = 1 := by kernel_rfl
theorem cells57 : Try.prog.cellsOf 57 = 1 := by kernel_rfl
theorem cells58 : Try.prog.cellsOf 58 = 1 := by kernel_rfl
theorem cells60 : Try.prog.cellsOf 60 = 11 := by kernel_rfl
theorem cells85 : Try.prog.cellsOf 85 = 1 := by kernel_rfl
theorem cells87 : Try.prog.cellsOf 87 = 1 := by kernel_rfl
theorem cells90 : Try.prog.cellsOf 90 = 3 := by kernel_rfl
theorem cells94 : Try.prog.cellsOf 94 = 3 := by kernel_rfl
theorem cells102 : Try.prog.cellsOf 102 = 3 := by kernel_rfl
theorem cells104 : Try.prog.cellsOf 104 = 8 := by kernel_rfl
/-- The reading bears no more than a machine can. -/
def Lim (ws : List Nat) : Prop := ∀ z, z ∈ ws → z ≤ 281474976710656
theorem mem_all {H : Type} {P : Program} {e : TypeId} {x : Nat} {d : DataW H} : ∀ {l : List (DataW H)}, d ∈ l → x ∈ d.weights P e → x ∈ DataW.weightsAll P e l
  | [], h, _ => by cases h
  | c :: r, h, hx => by
    unfold DataW.weightsAll
    rcases List.mem_cons.mp h with rfl | h
    · exact List.mem_append_left _ hx
    · exact List.mem_append_right _ (mem_all h hx)
/-- A slice's elements, opened one by one (each K), are a list. -/
theorem open_many {H : Type} {enc : TypeId × Value → H} {α : Type} (z : α) (k : Kd α) (ty e sz : Nat) (ht : Try.prog.underlying ty = some (.slice e)) (hC : Try.prog.cellsOf e = sz) (hk : k.sz = sz) (B : α → Prop) (hz0 : B z)
    {W : World} {base : Nat} {sp : Nat → Bool} {held : Bool}
    (hone : ∀ {n : Nat} {cs : List Value} {x : DataW H × List MemPlace}, DataW.trod enc Try.prog W base sp held n e cs = some x → ∃ s : α, k.K W s cs ∧ (Lim (x.1.weights Try.prog e) → B s))
    {v : Value} {fuel : Nat} {x : DataW H × List MemPlace} (h : DataW.trod enc Try.prog W base sp held fuel ty [v] = some x) :
    ∃ (A : Option Addr) (l : List α) (cap : Nat), v = .slice A l.length cap ∧ l.length ≤ cap ∧ k.C W A l.length l ∧ (Lim (x.1.weights Try.prog ty) → ∀ i, B (l.getD i z)) := by
  rcases Go.Deep.open_slice ht h with ⟨hcs, _⟩ | ⟨a, len, cap, m, n, DD, Pl, hcs, _, hl, hm, hmm, hx, hi⟩
  · obtain rfl : v = .slice none 0 0 := by simpa using hcs
    exact ⟨none, [], 0, rfl, Nat.le_refl _, ⟨rfl, Nat.zero_le _, fun h => absurd h (Nat.lt_irrefl 0)⟩, fun _ i => by rw [show ([] : List α).getD i z = z by simp [List.getD]]; exact hz0⟩
  · obtain rfl : v = .slice (some a) len cap := by simpa using hcs
    subst hx
    have hml : len ≤ m := by
      rw [hmm]; split
      · exact hl
      · exact Nat.le_refl _
    have each : ∀ i, ∃ s : α, i < len → (Lim ((DD i).weights Try.prog e) → B s) ∧ ∃ cs, cs.length = sz ∧ k.K W s cs ∧ ∀ j u, cs[j]? = some u → W.cell? (a.add (i * sz + j)) = some u := by
      intro i
      by_cases hlt : i < len
      · obtain ⟨cs', hc, ht'⟩ := hi i (by omega)
        rw [hC] at hc
        obtain ⟨_, hlen, hat⟩ := World.cells?_some hc
        obtain ⟨s, h1, h2⟩ := hone ht'
        refine ⟨s, fun _ => ⟨h2, cs', hlen, h1, fun j u hu => ?_⟩⟩
        have hj := (List.getElem?_eq_some_iff.1 hu).1
        have e := hat j (by omega)
        rw [← hu, ← e, Go.Deep.add_add]
      · exact ⟨z, fun h => absurd h hlt⟩
    obtain ⟨F, hF⟩ : ∃ F : Nat → α, ∀ i, i < len → (Lim ((DD i).weights Try.prog e) → B (F i)) ∧ ∃ cs, cs.length = sz ∧ k.K W (F i) cs ∧ ∀ j u, cs[j]? = some u → W.cell? (a.add (i * sz + j)) = some u := ⟨fun i => Classical.choose (each i), fun i => Classical.choose_spec (each i)⟩
    have hlen : ((List.range len).map F).length = len := by simp
    have up : ∀ i, i < len → ∀ z, z ∈ (DD i).weights Try.prog e → z ∈ (DataW.slice ((List.range len).map DD) ((List.range (m - len)).map fun j => DD (len + j))).weights Try.prog ty := fun i hlt z hz => by
      simp only [DataW.weights, ht]
      exact List.mem_cons_of_mem _ (List.mem_append_left _ (mem_all (d := DD i) (List.mem_map.2 ⟨i, List.mem_range.2 hlt, rfl⟩) hz))
    refine ⟨some a, (List.range len).map F, cap, by rw [hlen], by rw [hlen]; exact hl, ⟨rfl, by rw [hlen]; have : maxLen = 9223372036854775807 := rfl; omega, fun _ => ⟨a, rfl, fun j p hp => ?_⟩⟩, fun hz i => ?_⟩
    · have hj : j < len := by
        have := (List.getElem?_eq_some_iff.1 hp).1
        rw [hlen] at this; exact this
      have hpe : p = F j := by
        rw [List.getElem?_map, List.getElem?_range hj] at hp
        exact (Option.some.inj hp).symm
      subst hpe
      obtain ⟨_, cs, hcl, hK, hcell⟩ := hF j hj
      rw [hk]
      exact ⟨cs, hcl, hK, hcell⟩
    · by_cases hlt : i < len
      · have e : ((List.range len).map F).getD i z = F i := by simp [List.getD, hlt]
        rw [e]
        exact (hF i hlt).1 fun q hq => hz q (up i hlt q hq)
      · rw [show ((List.range len).map F).getD i z = z by simp [List.getD, Nat.le_of_not_lt hlt]]
        exact hz0
theorem arr1 {α : Type} {cs : Array α} (h : cs.size = 1) : ∃ u, cs = #[u] := by
  match cs, h with
  | ⟨[u]⟩, _ => exact ⟨u, rfl⟩
theorem op_int {H : Type} {enc : TypeId × Value → H} {W : World} {base : Nat} {sp : Nat → Bool} {held : Bool} {n : Nat} {cs : List Value} {x : DataW H × List MemPlace} (h : DataW.trod enc Try.prog W base sp held n 3 cs = some x) : ∃ s : Int, (Kd.int .i64).K W s cs ∧ (Lim (x.1.weights Try.prog 3) → True) := by
  obtain ⟨f0, e0, _, _⟩ := DataW.trod_int Try.underlying3 h
  exact ⟨f0, e0, fun _ => trivial⟩
theorem row_1 {α : Type} (l : List α) (h : l.length = 1) : ∃ y0, l = [y0] := by
  match l, h with
  | [y0], _ => exact ⟨y0, rfl⟩
theorem row_3 {α : Type} (l : List α) (h : l.length = 3) : ∃ y0 y1 y2, l = [y0, y1, y2] := by
  match l, h with
  | [y0, y1, y2], _ => exact ⟨y0, y1, y2, rfl⟩
theorem row_6 {α : Type} (l : List α) (h : l.length = 6) : ∃ y0 y1 y2 y3 y4 y5, l = [y0, y1, y2, y3, y4, y5] := by
  match l, h with
  | [y0, y1, y2, y3, y4, y5], _ => exact ⟨y0, y1, y2, y3, y4, y5, rfl⟩
theorem row_8 {α : Type} (l : List α) (h : l.length = 8) : ∃ y0 y1 y2 y3 y4 y5 y6 y7, l = [y0, y1, y2, y3, y4, y5, y6, y7] := by
  match l, h with
  | [y0, y1, y2, y3, y4, y5, y6, y7], _ => exact ⟨y0, y1, y2, y3, y4, y5, y6, y7, rfl⟩
theorem row_11 {α : Type} (l : List α) (h : l.length = 11) : ∃ y0 y1 y2 y3 y4 y5 y6 y7 y8 y9 y10, l = [y0, y1, y2, y3, y4, y5, y6, y7, y8, y9, y10] := by
  match l, h with
  | [y0, y1, y2, y3, y4, y5, y6, y7, y8, y9, y10], _ => exact ⟨y0, y1, y2, y3, y4, y5, y6, y7, y8, y9, y10, rfl⟩
theorem rec_1 {H : Type} {enc : TypeId × Value → H} {W : World} {base : Nat} {sp : Nat → Bool} {held : Bool} {t : TypeId} {f0 : Field} {fuel : Nat} {cs : List Value} {x : DataW H × List MemPlace} (ht : Try.prog.underlying t = some (.struct #[f0])) (h : DataW.trod enc Try.prog W base sp held fuel t cs = some x) :
    ∃ y0 n rs, x = (.agg [y0.1], rs) ∧ cs.length = Try.prog.cellsOf t ∧ DataW.trod enc Try.prog W base sp held n f0.type ((cs.drop f0.offset).take (Try.prog.cellsOf f0.type)) = some y0 := by
  obtain ⟨xs, n, _, rfl, hl, hlen, hf⟩ := DataW.trod_struct ht h
  match xs, hlen with
  | [y0], _ => exact ⟨y0, n, _, rfl, hl, by simpa using hf 0 f0 rfl⟩
theorem rec_3 {H : Type} {enc : TypeId × Value → H} {W : World} {base : Nat} {sp : Nat → Bool} {held : Bool} {t : TypeId} {f0 f1 f2 : Field} {fuel : Nat} {cs : List Value} {x : DataW H × List MemPlace} (ht : Try.prog.underlying t = some (.struct #[f0, f1, f2])) (h : DataW.trod enc Try.prog W base sp held fuel t cs = some x) :
    ∃ y0 y1 y2 n rs, x = (.agg [y0.1, y1.1, y2.1], rs) ∧ cs.length = Try.prog.cellsOf t ∧ DataW.trod enc Try.prog W base sp held n f0.type ((cs.drop f0.offset).take (Try.prog.cellsOf f0.type)) = some y0 ∧ DataW.trod enc Try.prog W base sp held n f1.type ((cs.drop f1.offset).take (Try.prog.cellsOf f1.type)) = some y1 ∧ DataW.trod enc Try.prog W base sp held n f2.type ((cs.drop f2.offset).take (Try.prog.cellsOf f2.type)) = some y2 := by
  obtain ⟨xs, n, _, rfl, hl, hlen, hf⟩ := DataW.trod_struct ht h
  match xs, hlen with
  | [y0, y1, y2], _ => exact ⟨y0, y1, y2, n, _, rfl, hl, by simpa using hf 0 f0 rfl, by simpa using hf 1 f1 rfl, by simpa using hf 2 f2 rfl⟩
theorem rec_6 {H : Type} {enc : TypeId × Value → H} {W : World} {base : Nat} {sp : Nat → Bool} {held : Bool} {t : TypeId} {f0 f1 f2 f3 f4 f5 : Field} {fuel : Nat} {cs : List Value} {x : DataW H × List MemPlace} (ht : Try.prog.underlying t = some (.struct #[f0, f1, f2, f3, f4, f5])) (h : DataW.trod enc Try.prog W base sp held fuel t cs = some x) :
    ∃ y0 y1 y2 y3 y4 y5 n rs, x = (.agg [y0.1, y1.1, y2.1, y3.1, y4.1, y5.1], rs) ∧ cs.length = Try.prog.cellsOf t ∧ DataW.trod enc Try.prog W base sp held n f0.type ((cs.drop f0.offset).take (Try.prog.cellsOf f0.type)) = some y0 ∧ DataW.trod enc Try.prog W base sp held n f1.type ((cs.drop f1.offset).take (Try.prog.cellsOf f1.type)) = some y1 ∧ DataW.trod enc Try.prog W base sp held n f2.type ((cs.drop f2.offset).take (Try.prog.cellsOf f2.type)) = some y2 ∧ DataW.trod enc Try.prog W base sp held n f3.type ((cs.drop f3.offset).take (Try.prog.cellsOf f3.type)) = some y3 ∧ DataW.trod enc Try.prog W base sp held n f4.type ((cs.drop f4.offset).take (Try.prog.cellsOf f4.type)) = some y4 ∧ DataW.trod enc Try.prog W base sp held n f5.type ((cs.drop f5.offset).take (Try.prog.cellsOf f5.type)) = some y5 := by
  obtain ⟨xs, n, _, rfl, hl, hlen, hf⟩ := DataW.trod_struct ht h
  match xs, hlen with
  | [y0, y1, y2, y3, y4, y5], _ => exact ⟨y0, y1, y2, y3, y4, y5, n, _, rfl, hl, by simpa using hf 0 f0 rfl, by simpa using hf 1 f1 rfl, by simpa using hf 2 f2 rfl, by simpa using hf 3 f3 rfl, by simpa using hf 4 f4 rfl, by simpa using hf 5 f5 rfl⟩
theorem rec_11 {H : Type} {enc : TypeId × Value → H} {W : World} {base : Nat} {sp : Nat → Bool} {held : Bool} {t : TypeId} {f0 f1 f2 f3 f4 f5 f6 f7 f8 f9 f10 : Field} {fuel : Nat} {cs : List Value} {x : DataW H × List MemPlace} (ht : Try.prog.underlying t = some (.struct #[f0, f1, f2, f3, f4, f5, f6, f7, f8, f9, f10])) (h : DataW.trod enc Try.prog W base sp held fuel t cs = some x) :
    ∃ y0 y1 y2 y3 y4 y5 y6 y7 y8 y9 y10 n rs, x = (.agg [y0.1, y1.1, y2.1, y3.1, y4.1, y5.1, y6.1, y7.1, y8.1, y9.1, y10.1], rs) ∧ cs.length = Try.prog.cellsOf t ∧ DataW.trod enc Try.prog W base sp held n f0.type ((cs.drop f0.offset).take (Try.prog.cellsOf f0.type)) = some y0 ∧ DataW.trod enc Try.prog W base sp held n f1.type ((cs.drop f1.offset).take (Try.prog.cellsOf f1.type)) = some y1 ∧ DataW.trod enc Try.prog W base sp held n f2.type ((cs.drop f2.offset).take (Try.prog.cellsOf f2.type)) = some y2 ∧ DataW.trod enc Try.prog W base sp held n f3.type ((cs.drop f3.offset).take (Try.prog.cellsOf f3.type)) = some y3 ∧ DataW.trod enc Try.prog W base sp held n f4.type ((cs.drop f4.offset).take (Try.prog.cellsOf f4.type)) = some y4 ∧ DataW.trod enc Try.prog W base sp held n f5.type ((cs.drop f5.offset).take (Try.prog.cellsOf f5.type)) = some y5 ∧ DataW.trod enc Try.prog W base sp held n f6.type ((cs.drop f6.offset).take (Try.prog.cellsOf f6.type)) = some y6 ∧ DataW.trod enc Try.prog W base sp held n f7.type ((cs.drop f7.offset).take (Try.prog.cellsOf f7.type)) = some y7 ∧ DataW.trod enc Try.prog W base sp held n f8.type ((cs.drop f8.offset).take (Try.prog.cellsOf f8.type)) = some y8 ∧ DataW.trod enc Try.prog W base sp held n f9.type ((cs.drop f9.offset).take (Try.prog.cellsOf f9.type)) = some y9 ∧ DataW.trod enc Try.prog W base sp held n f10.type ((cs.drop f10.offset).take (Try.prog.cellsOf f10.type)) = some y10 := by
  obtain ⟨xs, n, _, rfl, hl, hlen, hf⟩ := DataW.trod_struct ht h
  match xs, hlen with
  | [y0, y1, y2, y3, y4, y5, y6, y7, y8, y9, y10], _ => exact ⟨y0, y1, y2, y3, y4, y5, y6, y7, y8, y9, y10, n, _, rfl, hl, by simpa using hf 0 f0 rfl, by simpa using hf 1 f1 rfl, by simpa using hf 2 f2 rfl, by simpa using hf 3 f3 rfl, by simpa using hf 4 f4 rfl, by simpa using hf 5 f5 rfl, by simpa using hf 6 f6 rfl, by simpa using hf 7 f7 rfl, by simpa using hf 8 f8 rfl, by simpa using hf 9 f9 rfl, by simpa using hf 10 f10 rfl⟩
theorem bdz102 : bd102 z102 := (And.intro (by decide) trivial)
set_option maxRecDepth 100000 in
theorem op_102 {H : Type} {enc : TypeId × Value → H} {W : World} {base : Nat} {sp : Nat → Bool} {held : Bool} {n : Nat} {cs : List Value} {y : DataW H × List MemPlace} (h : DataW.trod enc Try.prog W base sp held n 102 cs = some y) :
    ∃ s : S102, k102.K W s cs ∧ (Lim (y.1.weights Try.prog 102) → bd102 s) := by
  obtain ⟨y0, y1, y2, m, rs, rfl, hl, h0, h1, h2⟩ := rec_3 Try.underlying102 h
  rw [cells102] at hl
  obtain ⟨c0, c1, c2, rfl⟩ := row_3 cs hl
  simp only [cells3, cells9, List.drop_zero, List.drop_succ_cons, List.take_succ_cons, List.take_zero] at h0 h1 h2
  obtain ⟨v0, e0, q0, w0⟩ := DataW.trod_int Try.underlying3 h0
  simp only [List.cons.injEq, and_true] at e0
  subst e0
  obtain ⟨v1, e1, q1, w1⟩ := DataW.trod_int Try.underlying3 h1
  simp only [List.cons.injEq, and_true] at e1
  subst e1
  obtain ⟨v2, e2, q2, w2⟩ := DataW.trod_string Try.underlying9 h2
  simp only [List.cons.injEq, and_true] at e2
  subst e2
  refine ⟨⟨v0, v1, v2⟩, ?_, fun hz => (And.intro (by have h9 := hz v2.data.toList.length (show _ ∈ (DataW.agg [y0.1, y1.1, y2.1]).weights Try.prog 102 by simpa [DataW.weights, Try.underlying102] using (DataW.weights_mem_each (P := Try.prog) (ts := [3, 3, 9]) (ds := [y0.1, y1.1, y2.1]) (j := 2) (t := 9) rfl rfl _ (show v2.data.toList.length ∈ y2.1.weights Try.prog 9 by rw [q2]; simp [DataW.weights]))); simpa using h9) trivial)⟩
  exact ⟨[.int .i64 v0], [.int .i64 v1, .string v2], rfl, rfl, ⟨[.int .i64 v1], [.string v2], rfl, rfl, rfl⟩⟩
theorem op_35 {H : Type} {enc : TypeId × Value → H} {W : World} {base : Nat} {sp : Nat → Bool} {held : Bool} {n : Nat} {v : Value} {y : DataW H × List MemPlace} (h : DataW.trod enc Try.prog W base sp held n 35 [v] = some y) :
    ∃ (A : Option Addr) (l : List Int) (cap : Nat), v = .slice A l.length cap ∧ l.length ≤ cap ∧ Kd.C (Kd.int .i64) W A l.length l ∧ (Lim (y.1.weights Try.prog 35) → True) := by
  obtain ⟨A, l, cap, h1, h2, h3, h4⟩ := open_many (H := H) (enc := enc) (0 : Int) (Kd.int .i64) 35 3 1 Try.underlying35 cells3 rfl (fun _ => True) (trivial) (fun h => op_int h) h
  exact ⟨A, l, cap, h1, h2, h3, fun _ => trivial⟩
theorem bdz104 : bd104 z104 := (And.intro bdz102 trivial)
set_option maxRecDepth 100000 in
theorem op_104 {H : Type} {enc : TypeId × Value → H} {W : World} {base : Nat} {sp : Nat → Bool} {held : Bool} {n : Nat} {cs : List Value} {y : DataW H × List MemPlace} (h : DataW.trod enc Try.prog W base sp held n 104 cs = some y) :
    ∃ s : S104, k104.K W s cs ∧ (Lim (y.1.weights Try.prog 104) → bd104 s) := by
  obtain ⟨y0, y1, y2, y3, y4, y5, m, rs, rfl, hl, h0, h1, h2, h3, h4, h5⟩ := rec_6 Try.underlying104 h
  rw [cells104] at hl
  obtain ⟨c0, c1, c2, c3, c4, c5, c6, c7, rfl⟩ := row_8 cs hl
  simp only [cells3, cells35, cells102, List.drop_zero, List.drop_succ_cons, List.take_succ_cons, List.take_zero] at h0 h1 h2 h3 h4 h5
  obtain ⟨v0, e0, q0, w0⟩ := DataW.trod_int Try.underlying3 h0
  simp only [List.cons.injEq, and_true] at e0
  subst e0
  obtain ⟨v1, e1, q1, w1⟩ := DataW.trod_int Try.underlying3 h1
  simp only [List.cons.injEq, and_true] at e1
  subst e1
  obtain ⟨v2, e2, q2, w2⟩ := DataW.trod_int Try.underlying3 h2
  simp only [List.cons.injEq, and_true] at e2
  subst e2
  obtain ⟨v3, e3, q3, w3⟩ := DataW.trod_int Try.underlying3 h3
  simp only [List.cons.injEq, and_true] at e3
  subst e3
  obtain ⟨v4, K4, r4⟩ := op_102 h4
  obtain ⟨A5, v5, d5, e5, l5, g5, r5⟩ := op_35 h5
  subst e5
  refine ⟨⟨v0, v1, v2, v3, v4, v5⟩, ?_, fun hz => (And.intro (r4 fun z_ hm => hz z_ (show _ ∈ (DataW.agg [y0.1, y1.1, y2.1, y3.1, y4.1, y5.1]).weights Try.prog 104 by simpa [DataW.weights, Try.underlying104] using (DataW.weights_mem_each (P := Try.prog) (ts := [3, 3, 3, 3, 102, 35]) (ds := [y0.1, y1.1, y2.1, y3.1, y4.1, y5.1]) (j := 4) (t := 102) rfl rfl _ hm))) trivial)⟩
  exact ⟨[.int .i64 v0], [.int .i64 v1, .int .i64 v2, .int .i64 v3, c4, c5, c6, .slice A5 v5.length d5], rfl, rfl, ⟨[.int .i64 v1], [.int .i64 v2, .int .i64 v3, c4, c5, c6, .slice A5 v5.length d5], rfl, rfl, ⟨[.int .i64 v2], [.int .i64 v3, c4, c5, c6, .slice A5 v5.length d5], rfl, rfl, ⟨[.int .i64 v3], [c4, c5, c6, .slice A5 v5.length d5], rfl, rfl, ⟨[c4, c5, c6], [.slice A5 v5.length d5], rfl, K4, ⟨A5, d5, rfl, l5, g5⟩⟩⟩⟩⟩⟩
theorem op_85 {H : Type} {enc : TypeId × Value → H} {W : World} {base : Nat} {sp : Nat → Bool} {held : Bool} {n : Nat} {v : Value} {y : DataW H × List MemPlace} (h : DataW.trod enc Try.prog W base sp held n 85 [v] = some y) :
    ∃ (A : Option Addr) (l : List S104) (cap : Nat), v = .slice A l.length cap ∧ l.length ≤ cap ∧ Kd.C k104 W A l.length l ∧ (Lim (y.1.weights Try.prog 85) → ∀ i, bd104 (l.getD i z104)) := by
  obtain ⟨A, l, cap, h1, h2, h3, h4⟩ := open_many (H := H) (enc := enc) z104 k104 85 104 8 Try.underlying85 cells104 rfl (fun s => bd104 s) (bdz104) (fun h => op_104 h) h
  exact ⟨A, l, cap, h1, h2, h3, h4⟩
theorem bdz87 : bd87 z87 := (And.intro (fun i => by rw [show z87.f0.getD i z104 = z104 by simp [List.getD, z87]]; exact bdz104) trivial)
set_option maxRecDepth 100000 in
theorem op_87 {H : Type} {enc : TypeId × Value → H} {W : World} {base : Nat} {sp : Nat → Bool} {held : Bool} {n : Nat} {cs : List Value} {y : DataW H × List MemPlace} (h : DataW.trod enc Try.prog W base sp held n 87 cs = some y) :
    ∃ s : S87, k87.K W s cs ∧ (Lim (y.1.weights Try.prog 87) → bd87 s) := by
  obtain ⟨y0, m, rs, rfl, hl, h0⟩ := rec_1 Try.underlying87 h
  rw [cells87] at hl
  obtain ⟨c0, rfl⟩ := row_1 cs hl
  simp only [cells85, List.drop_zero, List.drop_succ_cons, List.take_succ_cons, List.take_zero] at h0
  obtain ⟨A0, v0, d0, e0, l0, g0, r0⟩ := op_85 h0
  subst e0
  refine ⟨⟨v0⟩, ?_, fun hz => (And.intro (r0 fun z_ hm => hz z_ (show _ ∈ (DataW.agg [y0.1]).weights Try.prog 87 by simpa [DataW.weights, Try.underlying87] using (DataW.weights_mem_each (P := Try.prog) (ts := [85]) (ds := [y0.1]) (j := 0) (t := 85) rfl rfl _ hm))) trivial)⟩
  exact ⟨A0, d0, rfl, l0, g0⟩
theorem op_56 {H : Type} {enc : TypeId × Value → H} {W : World} {base : Nat} {sp : Nat → Bool} {held : Bool} {n : Nat} {v : Value} {y : DataW H × List MemPlace} (h : DataW.trod enc Try.prog W base sp held n 56 [v] = some y) :
    ∃ (A : Option Addr) (l : List S87) (cap : Nat), v = .slice A l.length cap ∧ l.length ≤ cap ∧ Kd.C k87 W A l.length l ∧ (Lim (y.1.weights Try.prog 56) → ∀ i, bd87 (l.getD i z87)) := by
  obtain ⟨A, l, cap, h1, h2, h3, h4⟩ := open_many (H := H) (enc := enc) z87 k87 56 87 1 Try.underlying56 cells87 rfl (fun s => bd87 s) (bdz87) (fun h => op_87 h) h
  exact ⟨A, l, cap, h1, h2, h3, h4⟩
set_option maxRecDepth 100000 in
theorem op_90 {H : Type} {enc : TypeId × Value → H} {W : World} {base : Nat} {sp : Nat → Bool} {held : Bool} {n : Nat} {cs : List Value} {y : DataW H × List MemPlace} (h : DataW.trod enc Try.prog W base sp held n 90 cs = some y) :
    ∃ s : S90, k90.K W s cs ∧ (Lim (y.1.weights Try.prog 90) → True) := by
  obtain ⟨y0, y1, y2, m, rs, rfl, hl, h0, h1, h2⟩ := rec_3 Try.underlying90 h
  rw [cells90] at hl
  obtain ⟨c0, c1, c2, rfl⟩ := row_3 cs hl
  simp only [cells3, cells4, List.drop_zero, List.drop_succ_cons, List.take_succ_cons, List.take_zero] at h0 h1 h2
  obtain ⟨v0, e0, q0, w0⟩ := DataW.trod_int Try.underlying3 h0
  simp only [List.cons.injEq, and_true] at e0
  subst e0
  obtain ⟨v1, e1, q1, w1⟩ := DataW.trod_int Try.underlying3 h1
  simp only [List.cons.injEq, and_true] at e1
  subst e1
  obtain ⟨v2, e2, q2⟩ := DataW.trod_bool Try.underlying4 h2
  simp only [List.cons.injEq, and_true] at e2
  subst e2
  refine ⟨⟨v0, v1, v2⟩, ?_, fun hz => trivial⟩
  exact ⟨[.int .i64 v0], [.int .i64 v1, .bool v2], rfl, rfl, ⟨[.int .i64 v1], [.bool v2], rfl, rfl, rfl⟩⟩
theorem op_57 {H : Type} {enc : TypeId × Value → H} {W : World} {base : Nat} {sp : Nat → Bool} {held : Bool} {n : Nat} {v : Value} {y : DataW H × List MemPlace} (h : DataW.trod enc Try.prog W base sp held n 57 [v] = some y) :
    ∃ (A : Option Addr) (l : List S90) (cap : Nat), v = .slice A l.length cap ∧ l.length ≤ cap ∧ Kd.C k90 W A l.length l ∧ (Lim (y.1.weights Try.prog 57) → True) := by
  obtain ⟨A, l, cap, h1, h2, h3, h4⟩ := open_many (H := H) (enc := enc) z90 k90 57 90 3 Try.underlying57 cells90 rfl (fun _ => True) (trivial) (fun h => op_90 h) h
  exact ⟨A, l, cap, h1, h2, h3, fun _ => trivial⟩
set_option maxRecDepth 100000 in
theorem op_94 {H : Type} {enc : TypeId × Value → H} {W : World} {base : Nat} {sp : Nat → Bool} {held : Bool} {n : Nat} {cs : List Value} {y : DataW H × List MemPlace} (h : DataW.trod enc Try.prog W base sp held n 94 cs = some y) :
    ∃ s : S94, k94.K W s cs ∧ (Lim (y.1.weights Try.prog 94) → True) := by
  obtain ⟨y0, y1, y2, m, rs, rfl, hl, h0, h1, h2⟩ := rec_3 Try.underlying94 h
  rw [cells94] at hl
  obtain ⟨c0, c1, c2, rfl⟩ := row_3 cs hl
  simp only [cells3, cells4, List.drop_zero, List.drop_succ_cons, List.take_succ_cons, List.take_zero] at h0 h1 h2
  obtain ⟨v0, e0, q0, w0⟩ := DataW.trod_int Try.underlying3 h0
  simp only [List.cons.injEq, and_true] at e0
  subst e0
  obtain ⟨v1, e1, q1⟩ := DataW.trod_bool Try.underlying4 h1
  simp only [List.cons.injEq, and_true] at e1
  subst e1
  obtain ⟨v2, e2, q2⟩ := DataW.trod_bool Try.underlying4 h2
  simp only [List.cons.injEq, and_true] at e2
  subst e2
  refine ⟨⟨v0, v1, v2⟩, ?_, fun hz => trivial⟩
  exact ⟨[.int .i64 v0], [.bool v1, .bool v2], rfl, rfl, ⟨[.bool v1], [.bool v2], rfl, rfl, rfl⟩⟩
theorem op_58 {H : Type} {enc : TypeId × Value → H} {W : World} {base : Nat} {sp : Nat → Bool} {held : Bool} {n : Nat} {v : Value} {y : DataW H × List MemPlace} (h : DataW.trod enc Try.prog W base sp held n 58 [v] = some y) :
    ∃ (A : Option Addr) (l : List S94) (cap : Nat), v = .slice A l.length cap ∧ l.length ≤ cap ∧ Kd.C k94 W A l.length l ∧ (Lim (y.1.weights Try.prog 58) → True) := by
  obtain ⟨A, l, cap, h1, h2, h3, h4⟩ := open_many (H := H) (enc := enc) z94 k94 58 94 3 Try.underlying58 cells94 rfl (fun _ => True) (trivial) (fun h => op_94 h) h
  exact ⟨A, l, cap, h1, h2, h3, fun _ => trivial⟩
theorem bdz60 : bd60 z60 := (And.intro (fun i => by rw [show z60.f6.getD i z87 = z87 by simp [List.getD, z60]]; exact bdz87) trivial)
set_option maxRecDepth 100000 in
theorem op_60 {H : Type} {enc : TypeId × Value → H} {W : World} {base : Nat} {sp : Nat → Bool} {held : Bool} {n : Nat} {cs : List Value} {y : DataW H × List MemPlace} (h : DataW.trod enc Try.prog W base sp held n 60 cs = some y) :
    ∃ s : S60, k60.K W s cs ∧ (Lim (y.1.weights Try.prog 60) → bd60 s) := by
  obtain ⟨y0, y1, y2, y3, y4, y5, y6, y7, y8, y9, y10, m, rs, rfl, hl, h0, h1, h2, h3, h4, h5, h6, h7, h8, h9, h10⟩ := rec_11 Try.underlying60 h
  rw [cells60] at hl
  obtain ⟨c0, c1, c2, c3, c4, c5, c6, c7, c8, c9, c10, rfl⟩ := row_11 cs hl
  simp only [cells3, cells35, cells56, cells57, cells58, List.drop_zero, List.drop_succ_cons, List.take_succ_cons, List.take_zero] at h0 h1 h2 h3 h4 h5 h6 h7 h8 h9 h10
  obtain ⟨v0, e0, q0, w0⟩ := DataW.trod_int Try.underlying3 h0
  simp only [List.cons.injEq, and_true] at e0
  subst e0
  obtain ⟨v1, e1, q1, w1⟩ := DataW.trod_int Try.underlying3 h1
  simp only [List.cons.injEq, and_true] at e1
  subst e1
  obtain ⟨v2, e2, q2, w2⟩ := DataW.trod_int Try.underlying3 h2
  simp only [List.cons.injEq, and_true] at e2
  subst e2
  obtain ⟨v3, e3, q3, w3⟩ := DataW.trod_int Try.underlying3 h3
  simp only [List.cons.injEq, and_true] at e3
  subst e3
  obtain ⟨v4, e4, q4, w4⟩ := DataW.trod_int Try.underlying3 h4
  simp only [List.cons.injEq, and_true] at e4
  subst e4
  obtain ⟨v5, e5, q5, w5⟩ := DataW.trod_int Try.underlying3 h5
  simp only [List.cons.injEq, and_true] at e5
  subst e5
  obtain ⟨A6, v6, d6, e6, l6, g6, r6⟩ := op_56 h6
  subst e6
  obtain ⟨A7, v7, d7, e7, l7, g7, r7⟩ := op_35 h7
  subst e7
  obtain ⟨A8, v8, d8, e8, l8, g8, r8⟩ := op_57 h8
  subst e8
  obtain ⟨A9, v9, d9, e9, l9, g9, r9⟩ := op_58 h9
  subst e9
  obtain ⟨A10, v10, d10, e10, l10, g10, r10⟩ := op_35 h10
  subst e10
  refine ⟨⟨v0, v1, v2, v3, v4, v5, v6, v7, v8, v9, v10⟩, ?_, fun hz => (And.intro (r6 fun z_ hm => hz z_ (show _ ∈ (DataW.agg [y0.1, y1.1, y2.1, y3.1, y4.1, y5.1, y6.1, y7.1, y8.1, y9.1, y10.1]).weights Try.prog 60 by simpa [DataW.weights, Try.underlying60] using (DataW.weights_mem_each (P := Try.prog) (ts := [3, 3, 3, 3, 3, 3, 56, 35, 57, 58, 35]) (ds := [y0.1, y1.1, y2.1, y3.1, y4.1, y5.1, y6.1, y7.1, y8.1, y9.1, y10.1]) (j := 6) (t := 56) rfl rfl _ hm))) trivial)⟩
  exact ⟨[.int .i64 v0], [.int .i64 v1, .int .i64 v2, .int .i64 v3, .int .i64 v4, .int .i64 v5, .slice A6 v6.length d6, .slice A7 v7.length d7, .slice A8 v8.length d8, .slice A9 v9.length d9, .slice A10 v10.length d10], rfl, rfl, ⟨[.int .i64 v1], [.int .i64 v2, .int .i64 v3, .int .i64 v4, .int .i64 v5, .slice A6 v6.length d6, .slice A7 v7.length d7, .slice A8 v8.length d8, .slice A9 v9.length d9, .slice A10 v10.length d10], rfl, rfl, ⟨[.int .i64 v2], [.int .i64 v3, .int .i64 v4, .int .i64 v5, .slice A6 v6.length d6, .slice A7 v7.length d7, .slice A8 v8.length d8, .slice A9 v9.length d9, .slice A10 v10.length d10], rfl, rfl, ⟨[.int .i64 v3], [.int .i64 v4, .int .i64 v5, .slice A6 v6.length d6, .slice A7 v7.length d7, .slice A8 v8.length d8, .slice A9 v9.length d9, .slice A10 v10.length d10], rfl, rfl, ⟨[.int .i64 v4], [.int .i64 v5, .slice A6 v6.length d6, .slice A7 v7.length d7, .slice A8 v8.length d8, .slice A9 v9.length d9, .slice A10 v10.length d10], rfl, rfl, ⟨[.int .i64 v5], [.slice A6 v6.length d6, .slice A7 v7.length d7, .slice A8 v8.length d8, .slice A9 v9.length d9, .slice A10 v10.length d10], rfl, rfl, ⟨[.slice A6 v6.length d6], [.slice A7 v7.length d7, .slice A8 v8.length d8, .slice A9 v9.length d9, .slice A10 v10.length d10], rfl, ⟨A6, d6, rfl, l6, g6⟩, ⟨[.slice A7 v7.length d7], [.slice A8 v8.length d8, .slice A9 v9.length d9, .slice A10 v10.length d10], rfl, ⟨A7, d7, rfl, l7, g7⟩, ⟨[.slice A8 v8.length d8], [.slice A9 v9.length d9, .slice A10 v10.length d10], rfl, ⟨A8, d8, rfl, l8, g8⟩, ⟨[.slice A9 v9.length d9], [.slice A10 v10.length d10], rfl, ⟨A9, d9, rfl, l9, g9⟩, ⟨A10, d10, rfl, l10, g10⟩⟩⟩⟩⟩⟩⟩⟩⟩⟩⟩
theorem op_22 {H : Type} {enc : TypeId × Value → H} {W : World} {base : Nat} {sp : Nat → Bool} {held : Bool} {n : Nat} {v : Value} {y : DataW H × List MemPlace} (h : DataW.trod enc Try.prog W base sp held n 22 [v] = some y) :
    ∃ (A : Option Addr) (l : List S60) (cap : Nat), v = .slice A l.length cap ∧ l.length ≤ cap ∧ Kd.C k60 W A l.length l ∧ (Lim (y.1.weights Try.prog 22) → ∀ i, bd60 (l.getD i z60)) := by
  obtain ⟨A, l, cap, h1, h2, h3, h4⟩ := open_many (H := H) (enc := enc) z60 k60 22 60 11 Try.underlying22 cells60 rfl (fun s => bd60 s) (bdz60) (fun h => op_60 h) h
  exact ⟨A, l, cap, h1, h2, h3, h4⟩
set_option maxRecDepth 100000 in
theorem op_24 {H : Type} {enc : TypeId × Value → H} {W : World} {base : Nat} {sp : Nat → Bool} {held : Bool} {n : Nat} {cs : List Value} {y : DataW H × List MemPlace} (h : DataW.trod enc Try.prog W base sp held n 24 cs = some y) :
    ∃ s : S24, (∃ (A0 : Option Addr) (c0 : Nat), cs = [.slice A0 s.f0.length c0] ∧ s.f0.length ≤ c0 ∧ Kd.C k60 W A0 s.f0.length s.f0) ∧ (Lim (y.1.weights Try.prog 24) → bd24 s) := by
  obtain ⟨y0, m, rs, rfl, hl, h0⟩ := rec_1 Try.underlying24 h
  rw [cells24] at hl
  obtain ⟨c0, rfl⟩ := row_1 cs hl
  simp only [cells22, List.drop_zero, List.drop_succ_cons, List.take_succ_cons, List.take_zero] at h0
  obtain ⟨A0, v0, d0, e0, l0, g0, r0⟩ := op_22 h0
  subst e0
  refine ⟨⟨v0⟩, ?_, fun hz => (And.intro (r0 fun z_ hm => hz z_ (show _ ∈ (DataW.agg [y0.1]).weights Try.prog 24 by simpa [DataW.weights, Try.underlying24] using (DataW.weights_mem_each (P := Try.prog) (ts := [22]) (ds := [y0.1]) (j := 0) (t := 22) rfl rfl _ hm))) trivial)⟩
  exact ⟨A0, d0, rfl, l0, g0⟩
set_option maxRecDepth 100000 in
theorem lifted (os : Os) (started : os.Started) (H : Type) (enc : TypeId × Value → H) :
    ReturnsInHanded {} Try.checked os 3 .any (Rows.fnExactSafePlanSpec.pre6 enc Try.prog Try.f3 Rows.fnExactSafePlanRow.domain false) (Rows.fnExactSafePlanSpec.post enc Try.prog Try.f3 false true false false) := by
  refine returnsInHanded_of_change_sized (C := Try.checked) own started (by kernel_rfl) Try.func3
    (ChangeSpec.witness6 (enc := enc) (C := Try.checked) false ⟨#[], #[.agg #[.slice none 0 0]], []⟩ 8 (by kernel_rfl) (by kernel_rfl) (by kernel_rfl) (by kernel_rfl)) ?_
  intro W base args ds gs before hval0 hW hcnd hsz0 _
  have hsz : (DataW.weightsEach Try.prog (Try.f3.params.toList ++ Rows.fnExactSafePlanSpec.plain.varTypes Try.prog) (ds ++ gs)).all (· ≤ reachBytes) = true := hsz0
  have hval : ∀ (j : Nat) t v, Try.f3.params[j]? = some t → args[j]? = some v → Value.okWide Try.prog W .any base t v := hval0
  have hW' := hW
  obtain ⟨p, q, hA0, hV, rfl, hfz, hnd⟩ := hW
  have hA : DataW.TrodAll enc Try.prog W 0 (fun _ => true) true Try.f3.params.toList args.toList ds p := hA0
  rw [Try.params3] at hA hval hsz
  obtain ⟨v0, d0, rfl, rfl, h0⟩ := trodAll_one hA
  obtain ⟨rfl, rfl⟩ := trodVars_none hV
  have k0 := h0
  have lt0 : ∀ x ∈ p, x.block < W.heap.size := by obtain ⟨m, hm⟩ := k0; exact DataW.trod_lt m _ _ _ hm
  have lim0 : Lim (d0.weights Try.prog 24) := fun z hz => by
    have h2 : z ≤ reachBytes := of_decide_eq_true (List.all_eq_true.1 hsz _ (DataW.weights_mem_each (j := 0) (t := 24) rfl rfl _ hz))
    have h4 : reachBytes = 140737488351232 := by decide
    omega
  obtain ⟨cs0, rfl, hcs0⟩ := okWide_struct Try.underlying24 (hval 0 24 v0 rfl rfl)
  rw [cells24] at hcs0
  obtain ⟨u0, rfl⟩ := arr1 hcs0
  obtain ⟨m0, hm0⟩ := h0
  obtain ⟨x0, ⟨A0, c0, e0, l0, g0⟩, r0⟩ := op_24 hm0
  obtain rfl : u0 = .slice A0 x0.f0.length c0 := by simpa [Value.cells] using e0
  clear hA0 hval0 hsz0 hsz
  have fin := law3 x0 A0 c0 W g0 l0 (r0 lim0)
  refine fin.mono fun e W' ⟨he, bel⟩ => ?_
  subst he
  exact ⟨_, rfl, _, _, _, [], _, [], hW', trodAll_mk1 (shut_bool Try.underlying4 _), (trodAll_mk1 (Below.trod laidOut (by kernel_rfl) (of_decide_eq_true (by kernel_rfl)) k0 bel lt0)), rfl, bel.frame _, fun h => by cases h⟩
theorem proved : Rows.FnExactSafePlanSaid :=
  OpenClaim.holds_of_wide 3 Try.f3 rfl rfl rfl rfl rfl rfl rfl ⟨rfl, rfl, rfl, rfl, rfl⟩ rfl rfl rfl rfl rfl (by kernel_rfl) Try.func3 (by kernel_rfl)
    (of_decide_eq_true (by kernel_rfl)) (by unfold Func.isWrapper; first | (rw [if_pos (by decide +kernel)]; kernel_rfl) | (rw [if_neg (by decide +kernel)]; exact ⟨rfl, rfl⟩))
    (fun os started H enc _ => lifted os started H enc)
#print axioms proved
end Go.Proofs.Ytphlfmgllbpbhaa.fnExactSafePlan
namespace Go.Proofs.Ytphlfmgllbpbhaa
/-- The row, under a short name, for the claim. -/
theorem fnExactSafePlan_holds : Rows.FnExactSafePlanSaid := fnExactSafePlan.proved
end Go.Proofs.Ytphlfmgllbpbhaa
